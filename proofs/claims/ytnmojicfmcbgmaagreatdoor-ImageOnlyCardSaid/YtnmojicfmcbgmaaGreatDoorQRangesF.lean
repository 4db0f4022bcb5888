/- The iterator of the layer 'ranges': the ranges that are not empty, in order. The plain law of ranges: a set is fixed by its numbers; what the program and the document make of ranges is such a set, of the same numbers. -/
import Derived.RangeFuncNested
import Derived.RangeFuncBound
import Derived.RangeFuncCalls
import Derived.RangeFuncLeaves
import Derived.Shelf.Abstract
import Derived.Shelf.RegionOpen
import Derived.OwnWalkIn
import Derived.TacticsInMore
import Derived.LoopNIn
import Derived.LoopIn
import Derived.Maps.AppendAt
import Derived.Test.YtnmojicfmcbgmaaGreatDoorQRangesE
import Derived.Laws.StructEq
import Derived.OrdersIn
import Derived.StillTail
import Derived.Test.YtnmojicfmcbgmaaGreatDoorQBase
namespace Go.Proofs.YtnmojicfmcbgmaaGreatDoor
open Go.RowKit Go.Sort Go.Lib Go.Shelf

attribute [local go_sem] Oper.semAt_some
/-- Block g lies as it lay. -/
def Kg (g : Nat) (W W' : World) : Prop := W.heap.size ≤ W'.heap.size ∧ W'.heap[g]? = W.heap[g]?
theorem Kg.refl (g : Nat) (W : World) : Kg g W W := ⟨Nat.le_refl _, rfl⟩
theorem Kg.trans {g : Nat} {A B C : World} (h : Kg g A B) (k : Kg g B C) : Kg g A C := ⟨Nat.le_trans h.1 k.1, k.2.trans h.2⟩
theorem Kg.alloc {g : Nat} {W W' : World} (h : Kg g W W') (hg : g < W.heap.size) (o : Obj) : Kg g W (W'.alloc o) :=
  ⟨by have := h.1; simp; omega, (Below.heap_alloc W' o g (by have := h.1; omega)).trans h.2⟩
theorem Kg.rd {α : Type} [Inhabited α] {enc : α → List Value} {k g off : Nat} {W W' : World} {d : Array α} (h : Kg g W W') (hg : g < W.heap.size) (hr : RdK enc k W.heap.size W (some ⟨g, off, none⟩) d) : RdK enc k W'.heap.size W' (some ⟨g, off, none⟩) d := fun h0 => by
  obtain ⟨b, off', e, _, hc⟩ := hr h0
  injection e with e
  injection e with e1 e2
  subst e1 e2
  refine ⟨g, off, rfl, Nat.lt_of_lt_of_le hg h.1, fun t ht => ?_⟩
  have := hc t ht
  unfold World.cell? at this ⊢
  simpa only [h.2] using this
end Go.Proofs.YtnmojicfmcbgmaaGreatDoor
namespace Go.Proofs.YtnmojicfmcbgmaaGreatDoor
open Go.RowKit Go.Sort Go.Lib
/-- Ranges from 1 to the last number, rising, none beside the next. -/
def NL (l : List (Int × Int)) : Prop := (∀ x ∈ l, 1 ≤ x.1 ∧ x.1 ≤ x.2 ∧ x.2 ≤ 1000000) ∧ l.Pairwise (fun x y => x.2 + 1 < y.1)
theorem inB_iff {n : Int} {x : Int × Int} : inB_R n x = true ↔ x.1 ≤ n ∧ n ≤ x.2 := by unfold inB_R; simp
theorem inL_iff {l : List (Int × Int)} {n : Int} : l.any (inB_R n) = true ↔ ∃ x ∈ l, x.1 ≤ n ∧ n ≤ x.2 := by simp [List.any_eq_true, inB_iff]
theorem inR_iff {d : Array (Int × Int)} {n : Int} : inR d n = true ↔ ∃ x ∈ d.toList, x.1 ≤ n ∧ n ≤ x.2 := inL_iff
theorem NL.tail {x : Int × Int} {l : List (Int × Int)} (h : NL (x :: l)) : NL l := ⟨fun y hy => h.1 y (by simp [hy]), (List.pairwise_cons.1 h.2).2⟩
theorem NL.gt {x : Int × Int} {l : List (Int × Int)} (h : NL (x :: l)) {n : Int} (hn : l.any (inB_R n) = true) : x.2 + 1 < n := by
  obtain ⟨y, hy, h1, _⟩ := inL_iff.1 hn
  have := (List.pairwise_cons.1 h.2).1 y hy
  omega
theorem any_cons {x : Int × Int} {l : List (Int × Int)} {n : Int} : (x :: l).any (inB_R n) = true ↔ (x.1 ≤ n ∧ n ≤ x.2) ∨ l.any (inB_R n) = true := by
  rw [List.any_cons, Bool.or_eq_true, inB_iff]
theorem NL.first {x y : Int × Int} {l m : List (Int × Int)} (h : NL (x :: l)) (k : NL (y :: m)) (e : ∀ n, (x :: l).any (inB_R n) = true → (y :: m).any (inB_R n) = true) : y.1 ≤ x.1 ∧ (x.1 = y.1 → x.2 ≤ y.2) := by
  have hx := h.1 x (by simp)
  have hy := k.1 y (by simp)
  constructor
  · rcases any_cons.1 (e x.1 (any_cons.2 (Or.inl ⟨by omega, by omega⟩))) with h1 | h1
    · omega
    · have := k.gt h1; omega
  · intro e1
    rcases Int.lt_or_le y.2 x.2 with hl | hl
    · rcases any_cons.1 (e (y.2 + 1) (any_cons.2 (Or.inl ⟨by omega, by omega⟩))) with h1 | h1
      · omega
      · have := k.gt h1; omega
    · exact hl
/-- Such ranges are fixed by the numbers in them. -/
theorem NL.uniq : ∀ {l m : List (Int × Int)}, NL l → NL m → (∀ n, l.any (inB_R n) = m.any (inB_R n)) → l = m
  | [], [], _, _, _ => rfl
  | [], y :: m, _, k, e => by
    have hy := k.1 y (by simp)
    have := e y.1
    rw [any_cons.2 (Or.inl ⟨by omega, by omega⟩)] at this
    simp at this
  | x :: l, [], h, _, e => by
    have hx := h.1 x (by simp)
    have := e x.1
    rw [any_cons.2 (Or.inl ⟨by omega, by omega⟩)] at this
    simp at this
  | x :: l, y :: m, h, k, e => by
    have a := h.first k (fun n hn => by rw [← e n]; exact hn)
    have b := k.first h (fun n hn => by rw [e n]; exact hn)
    have e1 : x.1 = y.1 := by omega
    have e2 : x.2 = y.2 := by have := a.2 e1; have := b.2 e1.symm; omega
    have e3 : x = y := Prod.ext e1 e2
    subst e3
    rw [NL.uniq h.tail k.tail fun n => ?_]
    rw [Bool.eq_iff_iff]
    have e' := e n
    constructor
    · intro hn
      have g := h.gt hn
      rcases any_cons.1 (e' ▸ any_cons.2 (Or.inr hn)) with h1 | h1
      · omega
      · exact h1
    · intro hn
      have g := k.gt hn
      rcases any_cons.1 (e'.symm ▸ any_cons.2 (Or.inr hn)) with h1 | h1
      · omega
      · exact h1
theorem NL.chain {d : Array (Int × Int)} (h : ∀ k, k < d.size → badAt d k = false) : NL d.toList := by
  have hk : ∀ k, k < d.size → 1 ≤ d[k]!.1 ∧ d[k]!.1 ≤ d[k]!.2 ∧ d[k]!.2 ≤ 1000000 ∧ (0 < k → d[k - 1]!.2 + 1 < d[k]!.1) := by
    intro k hk
    have := h k hk
    unfold badAt at this
    rw [decide_eq_false_iff_not] at this
    refine ⟨by omega, by omega, by omega, fun h0 => by omega⟩
  refine ⟨fun x hx => ?_, ?_⟩
  · obtain ⟨i, hi, rfl⟩ := List.mem_iff_getElem.1 hx
    have := hk i (by simpa using hi)
    rw [getElem!_pos d i (by simpa using hi)] at this
    simpa using ⟨this.1, this.2.1, this.2.2.1⟩
  · rw [List.pairwise_iff_getElem]
    have main : ∀ m i, i + m + 1 < d.size → d[i]!.2 + 1 < d[i + m + 1]!.1 := by
      intro m
      induction m with
      | zero => intro i hi; have := (hk (i + 1) (by omega)).2.2.2 (by omega); simpa using this
      | succ m ih =>
        intro i hi
        have a := ih i (by omega)
        have b := hk (i + m + 1) (by omega)
        have c := (hk (i + (m + 1) + 1) (by omega)).2.2.2 (by omega)
        have e : i + (m + 1) + 1 - 1 = i + m + 1 := by omega
        rw [e] at c
        omega
    intro i j hi hj hij
    have hi' : i < d.size := by simpa using hi
    have hj' : j < d.size := by simpa using hj
    obtain ⟨m, rfl⟩ : ∃ m, j = i + m + 1 := ⟨j - i - 1, by omega⟩
    have := main m i hj'
    rw [getElem!_pos d i hi', getElem!_pos d _ hj'] at this
    simpa using this
theorem NL.of_set {d : Array (Int × Int)} (h : setE_R d = 0) : NL d.toList := NL.chain (setE_all h).2
theorem NL.bad {d : Array (Int × Int)} (h : NL d.toList) (k : Nat) (hk : k < d.size) : badAt d k = false := by
  unfold badAt
  rw [decide_eq_false_iff_not]
  have a := h.1 d[k]! (by rw [getElem!_pos d k hk]; simp)
  have b : 0 < k → d[k - 1]!.2 + 1 < d[k]!.1 := fun h0 => by
    have := List.pairwise_iff_getElem.1 h.2 (k - 1) k (by simp; omega) (by simpa using hk) (by omega)
    rw [getElem!_pos d k hk, getElem!_pos d (k - 1) (by omega)]
    simpa using this
  omega
theorem NL.set {d : Array (Int × Int)} (h : NL d.toList) (hs : d.size ≤ 1000) : setE_R d = 0 := setE_ok hs h.bad
/-- The one set of just the numbers of which p tells true. -/
def IsN (p : Int → Bool) (s : Array (Int × Int)) : Prop := NL s.toList ∧ ∀ n, inR s n = p n
theorem IsN.uniq {p : Int → Bool} {s t : Array (Int × Int)} (h : IsN p s) (k : IsN p t) : s = t :=
  Array.toList_inj.1 (NL.uniq h.1 k.1 fun n => (h.2 n).trans (k.2 n).symm)
/-- That set, or what was there, if it has too many ranges. -/
def Fit (p : Int → Bool) (was out : Array (Int × Int)) : Prop := ∃ s, IsN p s ∧ out = if s.size ≤ 1000 then s else was
theorem Fit.uniq {p : Int → Bool} {was s t : Array (Int × Int)} (h : Fit p was s) (k : Fit p was t) : s = t := by
  obtain ⟨a, ha, rfl⟩ := h
  obtain ⟨b, hb, rfl⟩ := k
  rw [ha.uniq hb]
theorem Fit.congr {p q : Int → Bool} {was s : Array (Int × Int)} (h : Fit p was s) (e : ∀ n, p n = q n) : Fit q was s := by
  obtain ⟨a, ha, rfl⟩ := h
  exact ⟨a, ⟨ha.1, fun n => (ha.2 n).trans (e n)⟩, rfl⟩
/-- Is a number one of those that there are? -/
def may1 (n : Int) : Bool := decide (1 ≤ n ∧ n ≤ 1000000)
theorem inR_may {d : Array (Int × Int)} (h : NL d.toList) {n : Int} (hn : inR d n = true) : 1 ≤ n ∧ n ≤ 1000000 := by
  obtain ⟨x, hx, h1, h2⟩ := inR_iff.1 hn
  have := h.1 x hx
  omega
/-- The numbers that are in one of both. -/
def pAdd (d1 d2 : Array (Int × Int)) (n : Int) : Bool := may1 n && (inR d1 n || inR d2 n)
def pLess (d : Array (Int × Int)) (r : Int × Int) (n : Int) : Bool := inR d n && !inB_R n r
def pGaps (d : Array (Int × Int)) (r : Int × Int) (n : Int) : Bool := may1 n && (inB_R n r && !inR d n)
/-! what lacks -/
/-! the document's: the numbers at which something changes -/
theorem Fit.set {p : Int → Bool} {was out : Array (Int × Int)} (h : Fit p was out) (hw : setE_R was = 0) : setE_R out = 0 := by
  obtain ⟨s, hs, rfl⟩ := h
  split
  · rename_i h; exact hs.1.set h
  · exact hw
end Go.Proofs.YtnmojicfmcbgmaaGreatDoor
