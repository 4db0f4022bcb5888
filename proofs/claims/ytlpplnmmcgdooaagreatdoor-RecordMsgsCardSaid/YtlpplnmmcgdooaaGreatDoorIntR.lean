/- Slices of ints that read as arrays. -/
import Derived.Test.YtlpplnmmcgdooaaGreatDoorOwnK
namespace Go.Proofs.YtlpplnmmcgdooaaGreatDoor
open Go.RowKit Go.Sort

def encI (x : Int) : Value := .int .i64 x
/-- The slice at A, of d.size ints, reads as d, and lies below block B. -/
def RdI (B : Nat) (w : World) (A : Option Addr) (d : Array Int) : Prop :=
  0 < d.size → ∃ b off, A = some ⟨b, off, none⟩ ∧ b < B ∧ ∀ i, i < d.size → w.cell? ⟨b, off + i, none⟩ = some (.int .i64 d[i]!)
section
variable {w w' : World} {A : Option Addr} {d : Array Int} {B : Nat}
theorem RdI.below (h : RdI B w A d) (hb : Below B w w') : RdI B w' A d := fun h0 => by
  obtain ⟨b, off, e, hlt, hc⟩ := h h0
  exact ⟨b, off, e, hlt, fun t ht => (hb.cell (p := ⟨b, off + t, none⟩) hlt).trans (hc t ht)⟩
theorem RdI.mono {B' : Nat} (h : RdI B w A d) (hB : B ≤ B') : RdI B' w A d := fun h0 => by
  obtain ⟨b, off, e, hlt, hc⟩ := h h0
  exact ⟨b, off, e, by omega, hc⟩
/-- In a later world. -/
theorem RdI.next (h : RdI w.heap.size w A d) (hb : Below w.heap.size w w') : RdI w'.heap.size w' A d := (h.below hb).mono hb.size
theorem RdI.alloc (h : RdI B w A d) (hB : B ≤ w.heap.size) (o : Obj) : RdI B (w.alloc o) A d := h.below ((Below.refl _ _).alloc hB o)
theorem RdI.at_ (h : RdI B w A d) {i : Nat} (hi : i < d.size) : ∃ b off, A = some ⟨b, off, none⟩ ∧ b < B ∧ w.cell? ⟨b, off + i, none⟩ = some (.int .i64 d[i]!) := by
  obtain ⟨b, off, e, hlt, hc⟩ := h (by omega)
  exact ⟨b, off, e, hlt, hc i hi⟩
/-- Where block g alone has turned. -/
theorem RdI.grown (h : RdI w.heap.size w A d) {g : Nat} (hg : w.grownBy w' (some g)) (hne : ∀ a, A = some a → a.block ≠ g) : RdI w'.heap.size w' A d := fun h0 => by
  obtain ⟨b, off, e, hlt, hc⟩ := h h0
  exact ⟨b, off, e, Nat.lt_of_lt_of_le hlt hg.size, fun t ht => hg.cell (hc t ht) (by intro e'; injection e' with e'; exact hne _ e e')⟩
theorem RdI.none_ : RdI B w A #[] := fun h => absurd h (by decide)
theorem RdI.new (w : World) (d : Array Int) (e : TypeId) (cs : Array Value) (h : cs = d.map encI) : RdI (w.heap.size + 1) (w.alloc (.cells cs e)) (some ⟨w.heap.size, 0, none⟩) d := fun _ =>
  ⟨_, _, rfl, Nat.lt_succ_self _, fun i hi => by
    rw [cell_new, Nat.zero_add, h, Array.getElem?_map, Array.getElem?_eq_getElem hi, getElem!_pos _ i hi]; rfl⟩
/-- A row of the call's own, of ints: it reads as them. -/
theorem RdI.of_owns {base : Nat} {e : TypeId} {v : Value} {xs : List Int} (h : w.ownsRow base e 1 v xs.length (xs.map (Value.int .i64))) :
    ∃ A c, v = .slice A xs.length c ∧ RdI w.heap.size w A xs.toArray ∧ (A = none → c = 0) ∧ (∀ a, A = some a → base ≤ a.block) := by
  obtain ⟨_, ⟨hv, h0⟩ | ⟨g, cap, cur, hv, hb, hh, hnc, hmx, hcur, htk⟩⟩ := h
  · exact ⟨none, 0, by rw [hv, h0], fun hh => absurd hh (by simp; simpa using h0), fun _ => rfl, fun _ h => by cases h⟩
  · have hlt : g < w.heap.size := by
      rcases Nat.lt_or_ge g w.heap.size with h | h
      · exact h
      · rw [Array.getElem?_eq_none h] at hh; cases hh
    refine ⟨_, cap, hv, fun _ => ⟨g, 0, rfl, hlt, fun i hi => ?_⟩, (fun h => by cases h), fun a h => by injection h with h; subst h; exact hb⟩
    have hi' : i < xs.length := by simpa using hi
    have e1 : cur.toList[i]? = (xs.map (Value.int .i64))[i]? := by rw [← htk, List.getElem?_take_of_lt (by omega)]
    rw [Array.getElem?_toList] at e1
    simp only [World.cell?, hh, Nat.zero_add]
    rw [getElem!_pos xs.toArray i hi]
    simp [e1, hi']
end
end Go.Proofs.YtlpplnmmcgdooaaGreatDoor
