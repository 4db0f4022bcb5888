/- An argument that is a slice of commands at times, or one, opened. -/
import Derived.Test.YtgpejfkmdenonaaGreatOpen
import Derived.Test.YtgpejfkmdenonaaGreatQSrM
import Derived.Test.YtgpejfkmdenonaaGreatQId
import Derived.Deep.Fields
import Derived.Lib.SmallJoins
namespace Go.Proofs.YtgpejfkmdenonaaGreat
open Go.ChangeShapes Go.WideShapes Go.ChangeAt Go.RowKit Go.Deep Go.Joins
set_option maxRecDepth 100000
section
variable {H : Type} {enc : TypeId × Value → H} {P : Program} {w : World}
theorem block_of_cell_I {a : Addr} {v : Value} (h : w.cell? a = some v) : a.block < w.heap.size := by
  rcases Nat.lt_or_ge a.block w.heap.size with hl | hl
  · exact hl
  · unfold World.cell? at h
    rw [Array.getElem?_eq_none hl] at h
    cases h
/-- The two cells of a struct of two ints. -/
theorem pair_cells_I {base : Nat} {sp : Nat → Bool} {held : Bool} {e : TypeId} {f0 f1 : Field} {n : Nat} {cs : List Value} {x : DataW H × List MemPlace} (he : P.underlying e = some (.struct #[f0, f1])) (hone : oneCellFields P #[f0, f1] = true) (hC : P.cellsOf e = 2) (h0 : P.underlying f0.type = some (.int .i64)) (h1 : P.underlying f1.type = some (.int .i64))
    (h : DataW.trod enc P w base sp held n e cs = some x) : ∃ y : Int × Int, cs = [.int .i64 y.1, .int .i64 y.2] := by
  obtain ⟨y0, y1, n', _, hl, g0, g1⟩ := trod_struct2 he h
  obtain ⟨o0, k0⟩ := hone_of hone 0 f0 rfl
  obtain ⟨o1, k1⟩ := hone_of hone 1 f1 rfl
  obtain ⟨c0, c1, rfl⟩ : ∃ c0 c1, cs = [c0, c1] := by
    match cs, hl.trans hC with
    | [a, b], _ => exact ⟨a, b, rfl⟩
  simp [o0, k0] at g0
  simp [o1, k1] at g1
  obtain ⟨a, e0, _, _⟩ := DataW.trod_int h0 g0
  obtain ⟨b, e1, _, _⟩ := DataW.trod_int h1 g1
  simp at e0 e1
  exact ⟨(a, b), by rw [e0, e1]⟩
theorem open_rdA {r : Reach} {b0 : Nat} {t e : TypeId} {f0 f1 : Field} {v : Value} {d : DataW H} {p : List MemPlace} (ht : P.underlying t = some (.slice e)) (he : P.underlying e = some (.struct #[f0, f1])) (hone : oneCellFields P #[f0, f1] = true) (hC : P.cellsOf e = 2) (h0 : P.underlying f0.type = some (.int .i64)) (h1 : P.underlying f1.type = some (.int .i64))
    (hv : Value.okWide P w r b0 t v) (h : DataW.Trod enc P w 0 (fun _ => true) true t v d p) :
    ∃ (A : Option Addr) (c : Nat) (z : Array (Int × Int)), v = .slice A z.size c ∧ RdK encA_I 2 w.heap.size w A z ∧ (A = none → c = 0) := by
  obtain ⟨a0, len, cap, rfl⟩ := okWide_slice ht hv
  obtain ⟨fuel, hf⟩ := h
  rcases open_slice ht hf with ⟨hcs, _⟩ | ⟨a, len', cap', m, n, D, Pl, hcs, _, hl, hm, hmm, _, hi⟩
  · simp [Value.cells] at hcs
    obtain ⟨rfl, rfl, rfl⟩ := hcs
    exact ⟨none, 0, #[], rfl, fun h => absurd h (by decide), fun _ => rfl⟩
  · simp [Value.cells] at hcs
    obtain ⟨rfl, rfl, rfl⟩ := hcs
    simp at hmm
    subst hmm
    have hx : ∀ i, i < len → ∃ y : Int × Int, w.cell? (a.add (i * 2)) = some (.int .i64 y.1) ∧ w.cell? (a.add (i * 2 + 1)) = some (.int .i64 y.2) := by
      intro i hil
      obtain ⟨cs', hc, ht'⟩ := hi i (by omega)
      rw [hC] at hc
      obtain ⟨y, rfl⟩ := pair_cells_I he hone hC h0 h1 ht'
      obtain ⟨_, _, hat⟩ := World.cells?_some hc
      have a0 := hat 0 (by decide)
      have a1 := hat 1 (by decide)
      rw [add_add] at a0 a1
      exact ⟨y, a0, a1⟩
    obtain ⟨f, hf'⟩ := choose_lt hx
    have hsz : ((List.range len).map f).toArray.size = len := by simp
    refine ⟨some a, _, ((List.range len).map f).toArray, by rw [hsz], fun hp => ?_, fun h => by cases h⟩
    rw [hsz] at hp
    obtain ⟨b, off, spot⟩ := a
    have hspot : spot = none := by simpa [Addr.add] using World.cell?_spot (hf' 0 hp).1
    subst hspot
    have hb : b < w.heap.size := by
      have := block_of_cell_I (hf' 0 hp).1
      simpa [Addr.add] using this
    refine ⟨b, off, rfl, hb, fun t ht => ?_⟩
    rw [hsz] at ht
    have hq : t / 2 < len := by omega
    have e1 : ((List.range len).map f).toArray[t / 2]! = f (t / 2) := by simp [hq]
    rw [Go.Sort.get_flatK _ _ _ _ (by rw [hsz]; exact ht), e1]
    have g := hf' (t / 2) hq
    rw [Addr.add_lit, Addr.add_lit] at g
    rcases Nat.mod_two_eq_zero_or_one t with h2 | h2
    · rw [h2, show off + t = off + t / 2 * 2 by omega]; exact g.1
    · rw [h2, show off + t = off + (t / 2 * 2 + 1) by omega]; exact g.2
theorem open_rng_I {r : Reach} {b0 : Nat} {t : TypeId} {f0 f1 : Field} {v : Value} {d : DataW H} {p : List MemPlace} (he : P.underlying t = some (.struct #[f0, f1])) (hone : oneCellFields P #[f0, f1] = true) (hC : P.cellsOf t = 2) (h0 : P.underlying f0.type = some (.int .i64)) (h1 : P.underlying f1.type = some (.int .i64))
    (hv : Value.okWide P w r b0 t v) (h : DataW.Trod enc P w 0 (fun _ => true) true t v d p) : ∃ y : Int × Int, v = .agg #[.int .i64 y.1, .int .i64 y.2] := by
  obtain ⟨v0, v1, y0, y1, n, rfl, _, _, g0, g1⟩ := open_agg2 he hone hC hv h
  obtain ⟨a, e0, _, _⟩ := DataW.trod_int h0 g0
  obtain ⟨b, e1, _, _⟩ := DataW.trod_int h1 g1
  simp at e0 e1
  exact ⟨(a, b), by rw [e0, e1]⟩
end
theorem rSort_rd (A : Option Addr) (c : Nat) (d : Array (Int × Int)) (w : World) (h : RdK encA_I 2 w.heap.size w A d) (hd : d.size ≤ 1000000) :
    Calls Tryz.prog 37 #[.slice A d.size c] w fun e w' => ∃ A' c', e = .returned (.slice A' d.size c') ∧ RdK encA_I 2 w'.heap.size w' A' (srtA d) ∧ Below w.heap.size w w' := by
  refine (rSort_any A c d w h hd).mono ?_
  rintro e w' ⟨v, rfl, ho, hb⟩
  have hs := srtA_size d
  rw [← hs] at ho ⊢
  by_cases hn : v = .slice none 0 0
  · subst hn
    have h0 : (srtA d).size = 0 := by
      obtain ⟨_, ⟨_, h0⟩ | ⟨g, cap, cur, hv, _⟩⟩ := ho
      · exact h0
      · cases hv
    exact ⟨none, 0, by rw [h0], (fun h => absurd h (by omega)), hb⟩
  · obtain ⟨g, cap, rfl, _, h2, h3⟩ := holds_of_owns ho hn
    exact ⟨_, _, rfl, RdK.of_holds h3 h2, hb⟩
theorem sameA_yes (A1 A2 : Option Addr) (c1 c2 n : Nat) (s : Array (Int × Int)) (w : World) (h1 : RdK encA_I 2 w.heap.size w A1 s) (h2 : RdK encA_I 2 w.heap.size w A2 s) (hn : s.size = n) (hm : n ≤ 1000000) :
    Calls Tryz.prog 39 #[.slice A1 n c1, .slice A2 n c2] w fun e w' => e = .returned (.bool true) ∧ Below w.heap.size w w' := by
  subst hn
  exact (SameAtts_any_I A1 A2 c1 c2 s s w.heap.size w h1 h2 hm hm).mono fun _ _ ⟨e, n, hw⟩ => ⟨by rw [e]; simp, by rw [hw]; exact belDrewN (Below.refl _ _) n⟩
theorem rdzA {W w : World} {A : Option Addr} {d : Array (Int × Int)} (h : RdK encA_I 2 W.heap.size W A d) (hb : Below W.heap.size W w) : RdK encA_I 2 w.heap.size w A d := (h.below hb).mono hb.size
end Go.Proofs.YtgpejfkmdenonaaGreat
