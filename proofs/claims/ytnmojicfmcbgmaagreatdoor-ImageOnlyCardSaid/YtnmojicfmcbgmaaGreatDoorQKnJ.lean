/- known.Has, known.Same; the predicates of Add and Settle. known.Add, where it refuses; a row of its own with some elements taken out. known.Add, where it adds. known.Settle. known.Open, known.Same. rubatoref16.Same; the probes' plain facts. What the document's union of ranges, ranges without a number, and commands that are open come to. -/
import Derived.Laws.StructEq
import Derived.Test.YtnmojicfmcbgmaaGreatDoorQKnP
import Derived.Test.YtnmojicfmcbgmaaGreatDoorQSrtK
import Derived.Deep.RegionHeld3
namespace Go.Proofs.YtnmojicfmcbgmaaGreatDoor
open Go.RowKit Go.Sort Go.Lib
set_option maxRecDepth 100000
/-- Are two the same? -/
def sameK (k j : KN) : Bool := (k.base == j.base) && decide (k.rs = j.rs) && decide (k.ats = j.ats)
theorem sameK_iff {k j : KN} : sameK k j = true ↔ k = j := by
  obtain ⟨a, b, c⟩ := k
  obtain ⟨d, e, f⟩ := j
  unfold sameK
  simp [and_assoc]
end Go.Proofs.YtnmojicfmcbgmaaGreatDoor
namespace Go.Proofs.YtnmojicfmcbgmaaGreatDoor
open Go.RowKit Go.Sort Go.Lib
set_option maxRecDepth 100000
theorem two_blk (w : World) (o o' : Obj) : ((w.alloc o).alloc o').heap[w.heap.size]? = some o ∧ ((w.alloc o).alloc o').heap[w.heap.size + 1]? = some o' :=
  ⟨blk_alloc (heap_alloc_new w o), by rw [show w.heap.size + 1 = (w.alloc o).heap.size by simp]; exact heap_alloc_new _ _⟩
theorem blk3 {W : World} {g : Nat} {a b c : Value} {T : TypeId} (h : W.heap[g]? = some (.cells #[a, b, c] T (0, 0))) : (W.cell? ⟨g, 0, none⟩ = some a ∧ W.cell? ⟨g, 1, none⟩ = some b ∧ W.cell? ⟨g, 2, none⟩ = some c) ∧ ∀ i, W.frozen? ⟨g, i, none⟩ = false := by
  refine ⟨⟨?_, ?_, ?_⟩, fun i => by simp [World.frozen?, h]⟩
  · rw [cell_of_row W _ 0 _ _ (0, 0) h]; rfl
  · rw [cell_of_row W _ 1 _ _ (0, 0) h]; rfl
  · rw [cell_of_row W _ 2 _ _ (0, 0) h]; rfl
theorem blk_lt {W : World} {g : Nat} {o : Obj} (h : W.heap[g]? = some o) : g < W.heap.size := by
  rcases Nat.lt_or_ge g W.heap.size with h' | h'
  · exact h'
  · rw [Array.getElem?_eq_none h'] at h; cases h
theorem blk_bel {W W' : World} {g : Nat} {o : Obj} (h : W.heap[g]? = some o) (hb : Below W.heap.size W W') : W'.heap[g]? = some o := (hb.block g (blk_lt h)).trans h
end Go.Proofs.YtnmojicfmcbgmaaGreatDoor
namespace Go.Proofs.YtnmojicfmcbgmaaGreatDoor
open Go.RowKit Go.Sort Go.Lib
set_option maxRecDepth 100000
theorem RdK.far {α : Type} [Inhabited α] {enc : α → List Value} {k B : Nat} {w : World} {A : Option Addr} {d : Array α} (h : RdK enc k B w A d) (p : Addr) (v : Value) (hp : ∀ g off, A = some ⟨g, off, none⟩ → g ≠ p.block) : RdK enc k B (w.setCell p v) A d := fun h0 => by
  obtain ⟨b, off, e, hlt, hc⟩ := h h0
  exact ⟨b, off, e, hlt, fun t ht => (World.cell?_setCell_far w p ⟨b, off + t, none⟩ v (Ne.symm (hp b off e))).trans (hc t ht)⟩
end Go.Proofs.YtnmojicfmcbgmaaGreatDoor
namespace Go.Proofs.YtnmojicfmcbgmaaGreatDoor
open Go.RowKit Go.Sort Go.Lib
set_option maxRecDepth 100000
theorem RdI_R.next {w w' : World} {A : Option Addr} {d : Array Int} (h : RdI_R w.heap.size w A d) (hb : Below w.heap.size w w') : RdI_R w'.heap.size w' A d := (h.below hb).mono hb.size
end Go.Proofs.YtnmojicfmcbgmaaGreatDoor
namespace Go.Proofs.YtnmojicfmcbgmaaGreatDoor
open Go.RowKit Go.Sort Go.Lib
set_option maxRecDepth 100000
/-- s holds the numbers of the commands that are open, each once, the least one ahead. -/
structure OpenR (k : KN) (s : Array Int) : Prop where
  up : s.toList.Pairwise (· < ·)
  mem : ∀ x, x ∈ s.toList ↔ chkB k = true ∧ x ∈ k.ats.toList.map (·.2)
theorem up_ext : ∀ {a b : List Int}, a.Pairwise (· < ·) → b.Pairwise (· < ·) → (∀ x, x ∈ a ↔ x ∈ b) → a = b
  | [], [], _, _, _ => rfl
  | [], y :: b, _, _, h => absurd ((h y).2 (by simp)) (by simp)
  | x :: a, [], _, _, h => absurd ((h x).1 (by simp)) (by simp)
  | x :: a, y :: b, h1, h2, h => by
    obtain ⟨p1, p2⟩ := List.pairwise_cons.1 h1
    obtain ⟨q1, q2⟩ := List.pairwise_cons.1 h2
    have hxy : x = y := by
      rcases List.mem_cons.1 ((h x).1 (by simp)) with e | hx
      · exact e
      · rcases List.mem_cons.1 ((h y).2 (by simp)) with e | hy
        · exact e.symm
        · have := q1 x hx; have := p1 y hy; omega
    subst hxy
    rw [up_ext p2 q2 (fun z => ⟨fun hz => ?_, fun hz => ?_⟩)]
    · rcases List.mem_cons.1 ((h z).1 (by simp [hz])) with e | hz'
      · have := p1 z hz; omega
      · exact hz'
    · rcases List.mem_cons.1 ((h z).2 (by simp [hz])) with e | hz'
      · have := q1 z hz; omega
      · exact hz'
theorem OpenR.uniq {k : KN} {s t : Array Int} (h : OpenR k s) (g : OpenR k t) : s = t :=
  Array.toList_inj.1 (up_ext h.up g.up (fun x => (h.mem x).trans (g.mem x).symm))
end Go.Proofs.YtnmojicfmcbgmaaGreatDoor
namespace Go.Proofs.YtnmojicfmcbgmaaGreatDoor
open Go.RowKit Go.Sort Go.Lib
set_option maxRecDepth 100000
set_option maxHeartbeats 4000000 in
theorem rSame16_any (v1 v2 : Value) (k j : KN) (w : World) (h1 : KnV w v1 k) (h2 : KnV w v2 j) (s1 : k.rs.size ≤ 100000) (s2 : k.ats.size ≤ 100000) (s3 : j.rs.size ≤ 100000) (s4 : j.ats.size ≤ 100000) :
    Calls Tryz.prog 150 #[v1, v2] w fun e w' => e = .returned (.bool (sameK k j)) ∧ Below w.heap.size w w' := by
  obtain ⟨b1, r1, a1⟩ := k
  obtain ⟨b2, r2, a2⟩ := j
  obtain ⟨A1, c1, A2, c2, rfl, p1, p2, _, _⟩ := h1
  obtain ⟨A3, c3, A4, c4, rfl, p3, p4, _, _⟩ := h2
  have HR : Hid (∀ W, Below w.heap.size w W → Calls Tryz.prog 151 #[.slice A1 r1.size c1, .slice A3 r2.size c3] W fun e w' => e = .returned (.bool (decide (r1 = r2))) ∧ Below W.heap.size W w') := fun W hb => r4Same_b A1 A3 c1 c3 r1 r2 W ((p1.below hb).mono hb.size) ((p3.below hb).mono hb.size) (by simp only at s3; omega)
  have HA : Hid (∀ W, Below w.heap.size w W → Calls Tryz.prog 103 #[.slice A2 a1.size c2, .slice A4 a2.size c4] W fun e w' => e = .returned (.bool (decide (a1 = a2))) ∧ Below W.heap.size W w') := fun W hb => (SameAtts_any_I A2 A4 c2 c4 a1 a2 w.heap.size W (p2.below hb) (p4.below hb) (by simp only at s2; omega) (by simp only at s4; omega)).mono fun _ _ ⟨he, n, hw⟩ => ⟨he, by rw [hw]; exact belDrewN (Below.refl _ _) n⟩
  have HT := Lib.hid (two_blk w (.cells #[.int .i64 b1, .slice A1 r1.size c1, .slice A2 a1.size c2] 81) (.cells #[.int .i64 b2, .slice A3 r2.size c3, .slice A4 a2.size c4] 81))
  have HS : Hid (sameK ⟨b1, r1, a1⟩ ⟨b2, r2, a2⟩ = ((b1 == b2) && decide (r1 = r2) && decide (a1 = a2))) := Lib.hid rfl
  clear p1 p2 p3 p4 s1 s2 s3 s4
  generalize decide (r1 = r2) = er at HR HS
  generalize decide (a1 = a2) = ea at HA HS
  generalize sameK ⟨b1, r1, a1⟩ ⟨b2, r2, a2⟩ = sk at HS
  cases hb : (b1 == b2)
  · rw [hb] at HS
    have HF : Hid (sk = false) := HS.out
    clear HS HR HA
    go_enter Tryz.func150, Tryz.ntmps150
    go_wp2
    go_ret
    exact ⟨ret_bool HF.out.symm, belAlloc (bel1 w _) _⟩
  · rw [hb, Bool.true_and] at HS
    cases er
    · have HF : Hid (sk = false) := HS.out
      clear HS HA
      go_enter Tryz.func150, Tryz.ntmps150
      go_wp2_with fail
      refine (HR.out _ (belAlloc (bel1 w _) _)).mono ?_
      rintro e w1 ⟨rfl, hb1⟩
      have HB1 := Lib.hid (belStep (belAlloc (bel1 w _) _) hb1)
      clear hb1
      go_wp2
      go_ret
      exact ⟨ret_bool HF.out.symm, HB1.out⟩
    · have HF : Hid (sk = ea) := HS.out
      clear HS
      go_enter Tryz.func150, Tryz.ntmps150
      go_wp2_with fail
      refine (HR.out _ (belAlloc (bel1 w _) _)).mono ?_
      rintro e w1 ⟨rfl, hb1⟩
      obtain ⟨⟨u0, u1, u2⟩, _⟩ := blk3 (blk_bel HT.out.1 hb1)
      obtain ⟨⟨k0, k1, k2⟩, _⟩ := blk3 (blk_bel HT.out.2 hb1)
      have HB1 := Lib.hid (belStep (belAlloc (bel1 w _) _) hb1)
      have HAA := Lib.hid (HA.out w1 HB1.out)
      clear hb1 HA HR
      go_wp2_with fail
      refine HAA.out.mono ?_
      rintro e w2 ⟨rfl, hb2⟩
      go_wp2
      go_ret
      exact ⟨ret_bool HF.out.symm, belStep HB1.out hb2⟩

/-! what the probes are held against -/
end Go.Proofs.YtnmojicfmcbgmaaGreatDoor
namespace Go.Proofs.YtnmojicfmcbgmaaGreatDoor
open Go.RowKit Go.Sort Go.Lib
/-- o is the ranges among the first m of d that are not empty, as they begin. -/
structure InsU (d : Array (Int × Int)) (m : Nat) (o : Array (Int × Int)) : Prop where
  up : o.toList.Pairwise fun x y => x.1 ≤ y.1
  mem : ∀ x, x ∈ o.toList ↔ x ∈ d.toList.take m ∧ x.1 ≤ x.2
  sz : o.size ≤ m
theorem InsU.nil (d : Array (Int × Int)) : InsU d 0 #[] := ⟨by simp, by simp, Nat.le_refl _⟩
theorem take_snoc_U {d : Array (Int × Int)} {m : Nat} (hm : m < d.size) : d.toList.take (m + 1) = d.toList.take m ++ [d[m]!] := by
  rw [List.take_add_one]
  simp [hm]
theorem InsU.skip {d o : Array (Int × Int)} {m : Nat} (h : InsU d m o) (hm : m < d.size) (hx : d[m]!.2 < d[m]!.1) : InsU d (m + 1) o := by
  refine ⟨h.up, fun x => ?_, by have := h.sz; omega⟩
  rw [h.mem, take_snoc_U hm, List.mem_append, List.mem_singleton]
  constructor
  · rintro ⟨h1, h2⟩
    exact ⟨Or.inl h1, h2⟩
  · rintro ⟨h1 | rfl, h2⟩
    · exact ⟨h1, h2⟩
    · omega
theorem InsU.put {d o : Array (Int × Int)} {m k : Nat} (h : InsU d m o) (hm : m < d.size) (hx : d[m]!.1 ≤ d[m]!.2) (hk : k ≤ o.size) (h1 : ∀ j, j < k → o[j]!.1 ≤ d[m]!.1) (h2 : k < o.size → d[m]!.1 < o[k]!.1) :
    InsU d (m + 1) (#[] ++ (o.toList.take k).toArray ++ #[d[m]!] ++ (o.toList.drop k).toArray) := by
  have e : (#[] ++ (o.toList.take k).toArray ++ #[d[m]!] ++ (o.toList.drop k).toArray).toList = o.toList.take k ++ d[m]! :: o.toList.drop k := by simp
  refine ⟨?_, fun x => ?_, ?_⟩
  · rw [e]
    have hp := h.up
    rw [← List.take_append_drop k o.toList] at hp
    obtain ⟨p1, p2, p3⟩ := List.pairwise_append.1 hp
    have t1 : ∀ y ∈ o.toList.take k, y.1 ≤ d[m]!.1 := fun y hy => by
      obtain ⟨j, hj, rfl⟩ := List.mem_take_iff_getElem.1 hy
      have hj' : j < o.size := by simp at hj; omega
      have := h1 j (by simp at hj; omega)
      rw [getElem!_pos o j hj'] at this
      simpa using this
    have t2 : ∀ y ∈ o.toList.drop k, d[m]!.1 ≤ y.1 := fun y hy => by
      rcases Nat.lt_or_ge k o.size with hlt | hge
      · have hk' : k < o.toList.length := by simpa using hlt
        rw [List.drop_eq_getElem_cons hk'] at hy p2
        have hk2 := h2 hlt
        rw [getElem!_pos o k (by omega)] at hk2
        rcases List.mem_cons.1 hy with rfl | hy
        · exact Int.le_of_lt (by simpa using hk2)
        · have a1 := (List.pairwise_cons.1 p2).1 y hy
          have a2 : d[m]!.1 < (o.toList[k]).1 := by simpa using hk2
          omega
      · rw [List.drop_of_length_le (by simpa using hge)] at hy
        cases hy
    refine List.pairwise_append.2 ⟨p1, List.pairwise_cons.2 ⟨t2, p2⟩, fun y hy z hz => ?_⟩
    rcases List.mem_cons.1 hz with rfl | hz
    · exact t1 y hy
    · exact p3 y hy z hz
  · rw [e, take_snoc_U hm, List.mem_append, List.mem_cons, List.mem_append, List.mem_singleton]
    have hs : x ∈ o.toList ↔ x ∈ o.toList.take k ∨ x ∈ o.toList.drop k := by rw [← List.mem_append, List.take_append_drop]
    have hm' := h.mem x
    rw [hs] at hm'
    constructor
    · rintro (a | rfl | a)
      · exact ⟨Or.inl (hm'.1 (Or.inl a)).1, (hm'.1 (Or.inl a)).2⟩
      · exact ⟨Or.inr rfl, hx⟩
      · exact ⟨Or.inl (hm'.1 (Or.inr a)).1, (hm'.1 (Or.inr a)).2⟩
    · rintro ⟨a | rfl, b⟩
      · rcases hm'.2 ⟨a, b⟩ with c | c
        · exact Or.inl c
        · exact Or.inr (Or.inr c)
      · exact Or.inr (Or.inl rfl)
  · have := h.sz
    simp
    omega
end Go.Proofs.YtnmojicfmcbgmaaGreatDoor
