/- The document's sort of commands at times: its walk. -/
import Derived.Test.YthgpjbpkcpbcoaaSortK
import Derived.Deep.AppendLies
import Derived.Deep.CutRange
import Derived.Deep.CutBlock
namespace Go.Proofs.Ythgpjbpkcpbcoaa
open Go.RowKit Go.Sort Go.Lib

attribute [local go_sem ↓] Go.wp_at_zero Go.wp_at_succ
theorem own_mono {w : World} {base base' : Nat} {e : TypeId} {size : Nat} {v : Value} {n : Nat} {xs : List Value} (h : w.ownsRow base e size v n xs) (hb : base' ≤ base) : w.ownsRow base' e size v n xs :=
  ⟨h.1, h.2.imp id fun ⟨g, cap, cur, q1, q2, q3⟩ => ⟨g, cap, cur, q1, Nat.le_trans hb q2, q3⟩⟩
section
variable {w W W' : World} {x : Int × Int} {e : TypeId} {o : Obj} {H : Nat}
theorem one2 (h0 : W.cell? ⟨H, 0, none⟩ = some (.int .i64 x.1)) (h1 : W.cell? ⟨H, 1, none⟩ = some (.int .i64 x.2)) : RdK encA 2 (H + 1) W (some ⟨H, 0, none⟩) #[x] := fun _ =>
  ⟨H, 0, rfl, Nat.lt_succ_self _, fun t ht => by
    have ht' : t = 0 ∨ t = 1 := by simp at ht; omega
    rcases ht' with rfl | rfl
    · rw [get_flatK _ _ _ _ (by simp)]; exact h0
    · rw [get_flatK _ _ _ _ (by simp)]; exact h1⟩
theorem one2A (w1 : World) (x : Int × Int) (e : TypeId) : RdK encA 2 (w1.heap.size + 1) (w1.alloc (.cells #[.int .i64 x.1, .int .i64 x.2] e)).drew (some ⟨w1.heap.size, 0, none⟩) #[x] := one2 (cell_new w1 _ _ 0) (cell_new w1 _ _ 1)
theorem one2B (hg : ((w.alloc o).alloc (.cells #[.int .i64 x.1, .int .i64 x.2] e)).drew.grownBy W' (Value.slice (some ⟨w.heap.size, 0, none⟩) 0 0).ownBlock) : RdK encA 2 (w.heap.size + 1 + 1) W' (some ⟨w.heap.size + 1, 0, none⟩) #[x] := by
  have e1 : w.heap.size + 1 = (w.alloc o).heap.size := by simp
  refine one2 ?_ ?_
  · rw [hg.cell_far ⟨w.heap.size + 1, 0, none⟩ (by simp) (by simp [Value.ownBlock]), e1]
    exact cell_new (w.alloc o) _ _ 0
  · rw [hg.cell_far ⟨w.heap.size + 1, 1, none⟩ (by simp) (by simp [Value.ownBlock]), e1]
    exact cell_new (w.alloc o) _ _ 1
theorem one2C (hg : ((w.alloc (.cells #[.int .i64 x.1, .int .i64 x.2] e)).alloc o).drew.grownBy W' (Value.slice (some ⟨w.heap.size + 1, 0, none⟩) 0 0).ownBlock) : RdK encA 2 (w.heap.size + 1) W' (some ⟨w.heap.size, 0, none⟩) #[x] := by
  refine one2 ?_ ?_
  · rw [hg.cell_far ⟨w.heap.size, 0, none⟩ (by simp; omega) (by simp [Value.ownBlock])]
    exact (World.cell?_alloc_lt (w.alloc (.cells #[.int .i64 x.1, .int .i64 x.2] e)) o ⟨w.heap.size, 0, none⟩ (by simp)).trans (cell_new w _ _ 0)
  · rw [hg.cell_far ⟨w.heap.size, 1, none⟩ (by simp; omega) (by simp [Value.ownBlock])]
    exact (World.cell?_alloc_lt (w.alloc (.cells #[.int .i64 x.1, .int .i64 x.2] e)) o ⟨w.heap.size, 1, none⟩ (by simp)).trans (cell_new w _ _ 1)
theorem em2A (w : World) (e : TypeId) : (w.alloc (.cells #[] e)).drew.ownsRow w.heap.size e 2 (.slice (some ⟨w.heap.size, 0, none⟩) 0 0) (#[] : Array (Int × Int)).size (flatK encA 2 #[]).toList := (empty_ownsK w e encA 2).drew
theorem em2B (w : World) (e : TypeId) (o : Obj) : ((w.alloc (.cells #[] e)).alloc o).drew.ownsRow w.heap.size e 2 (.slice (some ⟨w.heap.size, 0, none⟩) 0 0) (#[] : Array (Int × Int)).size (flatK encA 2 #[]).toList := ((empty_ownsK w e encA 2).alloc o).drew
theorem em2C (w : World) (e : TypeId) (o : Obj) (H : (w.alloc o).heap.size = w.heap.size + 1) : ((w.alloc o).alloc (.cells #[] e)).drew.ownsRow w.heap.size e 2 (.slice (some ⟨w.heap.size + 1, 0, none⟩) 0 0) (#[] : Array (Int × Int)).size (flatK encA 2 #[]).toList := by
  have := own_mono (empty_ownsK (w.alloc o) e encA 2).drew (base' := w.heap.size) (by simp)
  rw [H] at this
  exact this
theorem rd_take {g m k B o0 : Nat} {oo : Array (Int × Int)} (hH : HoldsK encA 2 W g o0 oo) (hg : g < W.heap.size) (hb : Below W.heap.size W W') (hm : oo.size = m) (hk : k ≤ m) (hB : g < B) : RdK encA 2 B W' (some ⟨g, o0, none⟩) (oo.toList.take k).toArray := fun _ =>
  ⟨g, o0, rfl, hB, fun t ht => by
    have hl : (oo.toList.take k).toArray.size = k := by simp; omega
    rw [hl] at ht
    rw [hb.cell (p := ⟨g, o0 + t, none⟩) hg, (hH t (by rw [size_flatK]; omega)).1, get_flatK _ _ oo _ (by omega), get_flatK _ _ (oo.toList.take k).toArray _ (by rw [hl]; exact ht)]
    have e1 : (oo.toList.take k).toArray[t / 2]! = oo[t / 2]! := by
      rw [getElem!_pos _ _ (by rw [hl]; omega), getElem!_pos oo _ (by omega)]
      simp
    rw [e1]; rfl⟩
theorem rd_drop {g m k B o0 off : Nat} {oo : Array (Int × Int)} (hH : HoldsK encA 2 W g o0 oo) (hg : g < W.heap.size) (hb : Below W.heap.size W W') (hm : oo.size = m) (hk : k ≤ m) (hB : g < B) (ho : off = o0 + k * 2 ∨ k = m) : RdK encA 2 B W' (some ⟨g, off, none⟩) (oo.toList.drop k).toArray := fun h0 =>
  ⟨g, off, rfl, hB, fun t ht => by
    have hl : (oo.toList.drop k).toArray.size = m - k := by simp; omega
    rw [hl] at ht h0
    obtain rfl : off = o0 + k * 2 := by omega
    have e0 : o0 + k * 2 + t = o0 + (k * 2 + t) := by omega
    rw [hb.cell (p := ⟨g, o0 + k * 2 + t, none⟩) hg, e0, (hH (k * 2 + t) (by rw [size_flatK]; omega)).1, get_flatK _ _ oo _ (by omega), get_flatK _ _ (oo.toList.drop k).toArray _ (by rw [hl]; exact ht)]
    have e2 : (k * 2 + t) / 2 = k + t / 2 := by omega
    have e3 : (k * 2 + t) % 2 = t % 2 := by omega
    have e1 : (oo.toList.drop k).toArray[t / 2]! = oo[k + t / 2]! := by
      rw [getElem!_pos _ _ (by rw [hl]; omega), getElem!_pos oo _ (by omega)]
      simp
    rw [e1, e2, e3]; rfl⟩
theorem own_parts {base m : Nat} {v : Value} {oo : Array (Int × Int)} (h : W.ownsRow base e 2 v m (flatK encA 2 oo).toList) (hm : oo.size = m) (hn : v ≠ .slice none 0 0) : ∃ g cap o0, v = .slice (some ⟨g, o0, none⟩) m cap ∧ m ≤ cap ∧ g < W.heap.size ∧ HoldsK encA 2 W g o0 oo := by
  subst hm
  obtain ⟨g, cap, hv, h1, h2, h3⟩ := holds_of_owns h hn
  refine ⟨g, cap, 0, hv, ?_, h2, h3⟩
  obtain ⟨_, ⟨h1, _⟩ | ⟨g', cap', cur, hv', hb, hh, hnc, _⟩⟩ := h
  · exact absurd h1 hn
  · rw [hv] at hv'
    injection hv' with _ _ e3
    omega
theorem cellsE {g k o0 : Nat} {oo : Array (Int × Int)} (hH : HoldsK encA 2 w g o0 oo) (hg : g < w.heap.size) (hb : Below w.heap.size w W) (hi : k < oo.size) (p : ExtW W) : p.to.cell? ⟨g, o0 + k * 2, none⟩ = some (.int .i64 oo[k]!.1) ∧ p.to.cell? ⟨g, o0 + k * 2 + 1, none⟩ = some (.int .i64 oo[k]!.2) := by
  have hB := hb.trans (p.h.mono hb.size)
  exact ⟨(hB.cell (p := ⟨g, o0 + k * 2, none⟩) hg).trans ((hH.cell (i := k) (c := 0) hi (by decide)).1), (hB.cell (p := ⟨g, o0 + k * 2 + 1, none⟩) hg).trans ((hH.cell (i := k) (c := 1) hi (by decide)).1)⟩
theorem holdsBel {g o0 : Nat} {oo : Array (Int × Int)} (hH : HoldsK encA 2 w g o0 oo) (hg : g < w.heap.size) (hb : Below w.heap.size w W) : HoldsK encA 2 W g o0 oo := fun t ht =>
  ⟨(hb.cell (p := ⟨g, o0 + t, none⟩) hg).trans (hH t ht).1, (hb.frozen (p := ⟨g, o0 + t, none⟩) hg).trans (hH t ht).2⟩
theorem keep3 {b q : Nat} {u v : Value} (h : b < W.heap.size ∧ W.cell? ⟨b, q, none⟩ = some u ∧ W.cell? ⟨b, q + 1, none⟩ = some v) (hb : Below W.heap.size W W') : Below W.heap.size W W' ∧ W'.cell? ⟨b, q, none⟩ = some u ∧ W'.cell? ⟨b, q + 1, none⟩ = some v :=
  ⟨hb, (hb.cell (p := ⟨b, q, none⟩) h.1).trans h.2.1, (hb.cell (p := ⟨b, q + 1, none⟩) h.1).trans h.2.2⟩
end
end Go.Proofs.Ythgpjbpkcpbcoaa
