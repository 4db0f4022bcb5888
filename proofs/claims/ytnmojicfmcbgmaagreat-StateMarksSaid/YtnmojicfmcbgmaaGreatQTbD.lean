/- Commands forgotten: slices.Clone at commands, table.Drop, rubatoref21.Drop. -/
import Derived.Lib.SliceRun
import Derived.Test.YtnmojicfmcbgmaaGreatQSrtK
import Derived.Test.YtnmojicfmcbgmaaGreatQTbB
import Derived.Test.YtnmojicfmcbgmaaGreatShelf
namespace Go.Proofs.YtnmojicfmcbgmaaGreat
open Go.RowKit Go.Sort Go.Lib
set_option maxRecDepth 100000
theorem ent_info : (Tryz.prog.info? 60).map (fun i => (i.zero, i.size, i.bytes)) = some (some (.agg #[.int .i64 0, .int .i64 0, .int .i64 0, .int .i64 0, .int .i64 0, .int .i64 0, .int .i64 0, .int .i64 0, .string ⟨#[]⟩, .slice none 0 0]), 10, 104) := by kernel_rfl
theorem newL (W : World) (l : List Value) (t : TypeId) : ∀ j u, l[j]? = some u → (W.alloc (.cells l.toArray t)).cell? ((⟨W.heap.size, 0, none⟩ : Addr).add j) = some u := by
  intro j u hj
  rw [Addr.add_lit, Nat.zero_add, cell_new]
  rw [← hj]
  simp
theorem own_app_E {w wr w1 : World} {B : Nat} {o : Obj} {e : TypeId} {s n : Nat} {v : Value} {xs : List Value} (hb : Below B w wr) (hB : B ≤ wr.heap.size) (hown : wr.ownsRow B e s v n xs) (hg : (wr.alloc o).grownBy w1 v.ownBlock) : Below B w w1 :=
  (hb.alloc hB o).grown hg (by simp; omega) (fun k hk => (hown.lt k hk).1)
theorem own_belE {w W : World} {B s n : Nat} {e : TypeId} {v : Value} {xs : List Value} (h : w.ownsRow B e s v n xs) (hb : Below w.heap.size w W) : W.ownsRow B e s v n xs := by
  obtain ⟨h0, h1 | ⟨g, cap, cur, hv, hB, hh, hr⟩⟩ := h
  · exact ⟨h0, Or.inl h1⟩
  · exact ⟨h0, Or.inr ⟨g, cap, cur, hv, hB, (hb.block g (blkL hh)).trans hh, hr⟩⟩
set_option maxHeartbeats 2000000 in
theorem CloneN (A : Option Addr) (c : Nat) (d : Array EN) (w : World) (h : RdK encE 10 w.heap.size w A d) (hd : d.size ≤ 1000000) :
    Calls Tryz.prog 125 #[.slice A d.size c] w fun e w' => ∃ v, e = .returned v ∧ w'.ownsRow w.heap.size 60 10 v d.size (flatK encE 10 d).toList ∧ Below w.heap.size w w' := by
  obtain ⟨i0, hi0, hz0, hz1, hz2⟩ := info_parts ent_info
  cases A with
  | none =>
    have h0 : d.size = 0 := by
      rcases Nat.eq_zero_or_pos d.size with h0 | h0
      · exact h0
      · obtain ⟨b, off, e, _⟩ := h h0; cases e
    obtain rfl : d = #[] := Array.eq_empty_of_size_eq_zero h0
    exact (AnyE.slices_Clone_nil Tryz.laysCloneN 0 c w).mono fun e w' ⟨he, hw⟩ => ⟨_, he, nil_ownsK _ _ _ _ _, by rw [hw]; exact Below.refl _ _⟩
  | some ad =>
    have HR := Lib.hid h
    clear h
    have q33 : ∀ (w : World) (a : Option Addr) (n c n' c' : Nat), (binOp .eql 22 (.slice a n c) (.slice none n' c')).run Tryz.prog w = .ok (.bool a.isNone) w := fun w a n c n' c' => Lib.run_eql_slice_nil w _ _ a n c n' c' Tryz.underlying22
    go_enter Tryz.func125, Tryz.ntmps125
    go_wp2_with (at_builtin; refine append_rdK encE_1 encE_len (by decide) rfl (.tmp 5) (.tmp 6) 22 rfl w.heap.size 60 i0 (.agg #[.int .i64 0, .int .i64 0, .int .i64 0, .int .i64 0, .int .i64 0, .int .i64 0, .int .i64 0, .int .i64 0, .string ⟨#[]⟩, .slice none 0 0]) 104 Tryz.underlying22 hi0 hz0 hz1 hz2 rfl _ #[] rfl (empty_ownsK w 60 encE 10) w.heap.size (some ad) c d rfl (HR.out.alloc (Nat.le_refl _) _) (fun h => by cases h) (by simp; omega) (by decide) (by simp) ?_; intro v1 w1 hown1 hg1 _)
    go_ret
    have hb1 : Below w.heap.size w w1 := (bel1 w _).grown hg1 (by simp) (fun k hk => ((empty_ownsK w 60 encE 10).lt k hk).1)
    exact ⟨v1, rfl, by simpa using hown1, hb1⟩
end Go.Proofs.YtnmojicfmcbgmaaGreat
