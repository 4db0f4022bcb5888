/- Slices of ints that read as arrays; sizes of majorities; sets of replicas. Contracts of the layer 'stable': Check, Of, Least, and the document's. Contracts of the document's side of the layer 'stable': Check, many, Of, Least. The stable time, as the program tells it: the marks sorted, the greatest first. Plain: the marks sorted, the majority's place, is the greatest mark that a majority reaches. Lists of numbers held against each other; the least mark; whose marks are at least a time. The document's sets; merged marks. The document's set of those whose marks are at least a time; merged marks. Merged marks. The document's merged marks. 'awake' of the laws of layer 17 returns true. A slice of ints appended to a row of the call's own; with greater marks the stable time is no less. -/
import Derived.Test.YtgpejfkmdenonaaGreatRead
import Derived.Test.YtgpejfkmdenonaaGreatShelf
import Derived.Shelf.SlSortCmp.NoneTotal
import Derived.Laws.EntriesVeiled
import Derived.OwnWalk
import Derived.BigRegion
import Derived.Deep.RegionHeld3
import Derived.Laws.AppendOwnNone
namespace Go.Proofs.YtgpejfkmdenonaaGreat
open Go.RowKit Go.Sort

def encI_R (x : Int) : Value := .int .i64 x
/-- The slice at A, of d.size ints, reads as d, and lies below block B. -/
def RdI_R (B : Nat) (w : World) (A : Option Addr) (d : Array Int) : Prop :=
  0 < d.size → ∃ b off, A = some ⟨b, off, none⟩ ∧ b < B ∧ ∀ i, i < d.size → w.cell? ⟨b, off + i, none⟩ = some (.int .i64 d[i]!)
section
variable {w w' : World} {A : Option Addr} {d : Array Int} {B : Nat}
theorem RdI_R.below (h : RdI_R B w A d) (hb : Below B w w') : RdI_R B w' A d := fun h0 => by
  obtain ⟨b, off, e, hlt, hc⟩ := h h0
  exact ⟨b, off, e, hlt, fun t ht => (hb.cell (p := ⟨b, off + t, none⟩) hlt).trans (hc t ht)⟩
theorem RdI_R.mono {B' : Nat} (h : RdI_R B w A d) (hB : B ≤ B') : RdI_R B' w A d := fun h0 => by
  obtain ⟨b, off, e, hlt, hc⟩ := h h0
  exact ⟨b, off, e, by omega, hc⟩
theorem RdI_R.alloc (h : RdI_R B w A d) (hB : B ≤ w.heap.size) (o : Obj) : RdI_R B (w.alloc o) A d := h.below ((Below.refl _ _).alloc hB o)
theorem RdI_R.at_ (h : RdI_R B w A d) {i : Nat} (hi : i < d.size) : ∃ b off, A = some ⟨b, off, none⟩ ∧ b < B ∧ w.cell? ⟨b, off + i, none⟩ = some (.int .i64 d[i]!) := by
  obtain ⟨b, off, e, hlt, hc⟩ := h (by omega)
  exact ⟨b, off, e, hlt, hc i hi⟩
theorem RdI_R.none_ : RdI_R B w A #[] := fun h => absurd h (by decide)
theorem RdI_R.new (w : World) (d : Array Int) (e : TypeId) (cs : Array Value) (h : cs = d.map encI_R) : RdI_R (w.heap.size + 1) (w.alloc (.cells cs e)) (some ⟨w.heap.size, 0, none⟩) d := fun _ =>
  ⟨_, _, rfl, Nat.lt_succ_self _, fun i hi => by
    rw [cell_new, Nat.zero_add, h, Array.getElem?_map, Array.getElem?_eq_getElem hi, getElem!_pos _ i hi]; rfl⟩
end

def mostN (n : Int) : Int := if n < 3 ∨ 9 < n then 0 else n / 2 + 1
def manyB (n : Int) : Bool := decide (3 ≤ n ∧ n ≤ 9)
theorem manyB_yes {n : Int} (h : 3 ≤ n) (h' : n ≤ 9) : manyB n = true := by unfold manyB; simp; omega
theorem manyB_no {n : Int} (h : n < 3 ∨ 9 < n) : manyB n = false := by unfold manyB; simp; omega
def repB (r : Int) : Bool := decide (1 ≤ r ∧ r ≤ 9)
/-- The bit of a replica. -/
def setB (r : Int) : Int := if r < 1 ∨ 9 < r then 0 else 2 ^ (r.toNat - 1)
end Go.Proofs.YtgpejfkmdenonaaGreat
namespace Go.Proofs.YtgpejfkmdenonaaGreat
open Go.RowKit Go.Sort Go.Lib

theorem toList_getD (d : Array Int) (j : Nat) : d.toList.getD j 0 = d[j]! := by
  by_cases h : j < d.size <;> simp [List.getD, h]
theorem toList_get (d : Array Int) (j : Nat) : d.toList[j]! = d[j]! := by
  by_cases h : j < d.size <;> simp [h]
theorem holds_of_ownsI {w : World} {base : Nat} {e : TypeId} {v : Value} {d : Array Int} (h : w.ownsRow base e 1 v d.size (d.toList.map (Value.int .i64))) (hn : v ≠ .slice none 0 0) :
    ∃ g cap, v = .slice (some ⟨g, 0, none⟩) d.size cap ∧ base ≤ g ∧ g < w.heap.size ∧ Holds encI_R w g 0 d := by
  obtain ⟨_, ⟨h1, _⟩ | ⟨g, cap, cur, hv, hb, hh, hnc, hmx, hcur, htk⟩⟩ := h
  · exact absurd h1 hn
  · have hlt : g < w.heap.size := by
      rcases Nat.lt_or_ge g w.heap.size with h | h
      · exact h
      · rw [Array.getElem?_eq_none h] at hh; cases hh
    refine ⟨g, cap, hv, hb, hlt, fun t ht => ?_⟩
    have e1 : cur.toList[t]? = (d.toList.map (Value.int .i64))[t]? := by rw [← htk, List.getElem?_take_of_lt (by omega)]
    rw [List.getElem?_map, Array.getElem?_toList, Array.getElem?_toList, Array.getElem?_eq_getElem ht] at e1
    refine ⟨?_, by simp [World.frozen?, hh]⟩
    rw [getElem!_pos d t ht]
    simp [World.cell?, hh, e1, encI_R]
def badMark (t : Int) : Bool := decide (t < 0 ∨ 1000000 < t)
/-- Are these marks of n replicas? -/
def marksE (d : Array Int) (n : Int) : Int := if mostN n = 0 ∨ (d.size : Int) ≠ n ∨ d.toList.any badMark = true then 2 else 0
end Go.Proofs.YtgpejfkmdenonaaGreat
namespace Go.Proofs.YtgpejfkmdenonaaGreat
open Go.RowKit Go.Sort Go.Lib

theorem any_bad_no {d : Array Int} (h : ∀ j, j < d.size → badMark d[j]! = false) : d.toList.any badMark = false := by
  rw [List.any_eq_false]
  intro x hx
  obtain ⟨j, hj, rfl⟩ := List.mem_iff_getElem.1 hx
  have := h j (by simpa using hj)
  rw [getElem!_pos d j (by simpa using hj)] at this
  simpa using this
theorem any_bad_yes {d : Array Int} {j : Nat} (hj : j < d.size) (h : badMark d[j]! = true) : d.toList.any badMark = true := by
  rw [List.any_eq_true]
  refine ⟨d[j]!, ?_, h⟩
  rw [getElem!_pos d j hj]
  simp
/-- How many of the first k marks are at least t? -/
def manyN (d : Array Int) (t : Int) : Nat → Nat
  | 0 => 0
  | k + 1 => manyN d t k + if t ≤ d[k]! then 1 else 0
theorem manyN_le (d : Array Int) (t : Int) (k : Nat) : manyN d t k ≤ k := by
  induction k with
  | zero => simp [manyN]
  | succ k ih => unfold manyN; split <;> omega
/-- The greatest of the first k marks that at least m marks reach. -/
def bestN (d : Array Int) (m : Int) : Nat → Int
  | 0 => 0
  | k + 1 => if bestN d m k < d[k]! ∧ m ≤ manyN d d[k]! d.size then d[k]! else bestN d m k
def ofR (d : Array Int) (n : Int) : Int := if marksE d n = 0 then bestN d (mostN n) d.size else 0
end Go.Proofs.YtgpejfkmdenonaaGreat
namespace Go.Proofs.YtgpejfkmdenonaaGreat
open Go.RowKit Go.Sort Go.Lib

def fallC (x y : Int) : Int := Lib.compareInt y x
theorem fallC_lt (x y : Int) : ltOf fallC x y = decide (y < x) := by
  unfold ltOf fallC Lib.compareInt
  by_cases h1 : y < x
  · simp [h1]
  · by_cases h2 : x < y <;> simp [h1, h2]
theorem swoF : SWO (ltOf fallC) where
  irrefl x := by rw [fallC_lt]; simp
  trans x y z h1 h2 := by rw [fallC_lt] at *; simp at *; omega
  ntrans x y z h1 h2 := by rw [fallC_lt] at *; simp at *; omega
/-- The marks, the greatest first. -/
def sortD (d : Array Int) : Array Int := (d.toList.mergeSort fun x y => !(ltOf fallC) y x).toArray
theorem size_sortD (d : Array Int) : (sortD d).size = d.size := by simp [sortD]
def ofS (d : Array Int) (n : Int) : Int := if marksE d n = 0 then (sortD d)[(mostN n).toNat - 1]! else 0
theorem marks_size {d : Array Int} {n : Int} (h : marksE d n = 0) : 3 ≤ n ∧ n ≤ 9 ∧ (d.size : Int) = n ∧ mostN n = n / 2 + 1 ∧ d.toList.any badMark = false := by
  unfold marksE at h
  split at h
  · cases h
  · rename_i hh
    have h1 : mostN n ≠ 0 := fun e => hh (Or.inl e)
    have h2 : (d.size : Int) = n := Classical.byContradiction fun e => hh (Or.inr (Or.inl e))
    have h3 : d.toList.any badMark = false := by
      cases hb : d.toList.any badMark
      · rfl
      · exact absurd (Or.inr (Or.inr hb)) hh
    unfold mostN at h1 ⊢
    split at h1
    · exact absurd rfl h1
    · rw [if_neg (by assumption)]
      exact ⟨by omega, by omega, h2, rfl, h3⟩
theorem below_sortWorld {w1 : World} {g : Nat} (w : World) (hb : Below w.heap.size w w1) (hg : w.heap.size ≤ g) (n : Nat) (d : Array Int) (os : Array Obj) : Below w.heap.size w (sortWorld encI_R w1 g 0 n d os) := by
  have hs : w1.heap.size ≤ (sortWorld encI_R w1 g 0 n d os).heap.size := by
    unfold sortWorld; rw [size_grow]; show _ ≤ (putRow encI_R (Sort.ahead w1 n) g 0 d).heap.size + _; rw [size_putRow]; exact Nat.le_add_right _ _
  refine hb.trans ⟨rfl, rfl, rfl, hs, fun i hi => ?_⟩
  have hi1 : i < w1.heap.size := Nat.lt_of_lt_of_le hi hb.size
  show ((putRow encI_R (Sort.ahead w1 n) g 0 d).heap ++ os)[i]? = _
  rw [Array.getElem?_append_left (by show _ < (putRow encI_R (Sort.ahead w1 n) g 0 d).heap.size; rw [size_putRow]; exact hi1)]
  show ((Sort.ahead w1 n).heap.modify g _)[i]? = _
  rw [Array.getElem?_modify, if_neg (by omega)]
  rfl
end Go.Proofs.YtgpejfkmdenonaaGreat
namespace Go.Proofs.YtgpejfkmdenonaaGreat
open Go.RowKit Go.Sort Go.Lib

theorem manyN_count (d : Array Int) (t : Int) : ∀ k, k ≤ d.size → manyN d t k = (d.toList.take k).countP (fun x => decide (t ≤ x))
  | 0, _ => by simp [manyN]
  | k + 1, h => by
    have hk : k < d.toList.length := by rw [Array.length_toList]; omega
    rw [manyN, manyN_count d t k (by omega), List.take_succ_eq_append_getElem hk, List.countP_append, getElem!_pos d k (by omega)]
    congr 1
    simp [List.countP_cons]
theorem manyN_all (d : Array Int) (t : Int) : manyN d t d.size = d.toList.countP (fun x => decide (t ≤ x)) := by
  rw [manyN_count d t d.size (Nat.le_refl _), List.take_of_length_le (by simp)]
theorem sortD_perm (d : Array Int) : (sortD d).toList.Perm d.toList := by
  unfold sortD; exact List.mergeSort_perm _ _
theorem sortD_pair (d : Array Int) : (sortD d).toList.Pairwise (fun x y => y ≤ x) := by
  unfold sortD
  have h : (d.toList.mergeSort fun x y => !(ltOf fallC) y x).Pairwise (fun x y => (!(ltOf fallC) y x) = true) := by
    refine List.pairwise_mergeSort ?_ ?_ _
    · intro a b c h1 h2; rw [fallC_lt] at *; simp at *; omega
    · intro a b; rw [fallC_lt, fallC_lt]; simp; omega
  refine h.imp ?_
  intro a b hab
  rw [fallC_lt] at hab; simp at hab; omega
/-- Of a falling list: at least k are no less than the one at place k - 1. -/
theorem count_ge (l : List Int) (hp : l.Pairwise (fun x y => y ≤ x)) (k : Nat) (hk : k < l.length) : k + 1 ≤ l.countP (fun x => decide (l[k] ≤ x)) := by
  have h1 : (l.take (k + 1)).countP (fun x => decide (l[k] ≤ x)) = (l.take (k + 1)).length := by
    rw [List.countP_eq_length]
    intro x hx
    obtain ⟨j, hj, rfl⟩ := List.mem_iff_getElem.1 hx
    rw [List.getElem_take]
    have hj' : j < k + 1 := by simp at hj; omega
    rcases Nat.lt_or_ge j k with h | h
    · exact decide_eq_true (List.pairwise_iff_getElem.1 hp j k (by omega) hk h)
    · obtain rfl : j = k := by omega
      simp
  have h2 : (l.take (k + 1)).length = k + 1 := by simp; omega
  have h3 : (l.take (k + 1)).countP (fun x => decide (l[k] ≤ x)) ≤ l.countP (fun x => decide (l[k] ≤ x)) := (List.take_sublist _ _).countP_le
  omega
theorem count_lt (l : List Int) (hp : l.Pairwise (fun x y => y ≤ x)) (k : Nat) (hk : k < l.length) (t : Int) (ht : l[k] < t) : l.countP (fun x => decide (t ≤ x)) ≤ k := by
  have h1 : (l.drop k).countP (fun x => decide (t ≤ x)) = 0 := by
    rw [List.countP_eq_zero]
    intro x hx
    obtain ⟨j, hj, rfl⟩ := List.mem_iff_getElem.1 hx
    rw [List.getElem_drop]
    have hj' : k + j < l.length := by simp at hj; omega
    have : l[k + j] ≤ l[k] := by
      rcases Nat.eq_zero_or_pos j with h | h
      · subst h; simp
      · exact List.pairwise_iff_getElem.1 hp k (k + j) hk hj' (by omega)
    simp; omega
  have h2 : l.countP (fun x => decide (t ≤ x)) = (l.take k).countP (fun x => decide (t ≤ x)) + (l.drop k).countP (fun x => decide (t ≤ x)) := by
    conv => lhs; rw [← List.take_append_drop k l]
    rw [List.countP_append]
  have h3 := List.countP_le_length (p := fun x => decide (t ≤ x)) (l := l.take k)
  have h4 : (l.take k).length ≤ k := List.length_take_le _ _
  omega
theorem bestN_le (d : Array Int) (m v : Int) (h0 : 0 ≤ v) (h : ∀ j, j < d.size → m ≤ manyN d d[j]! d.size → d[j]! ≤ v) : ∀ k, k ≤ d.size → bestN d m k ≤ v
  | 0, _ => h0
  | k + 1, hk => by
    unfold bestN
    split
    · rename_i hh; exact h k (by omega) hh.2
    · exact bestN_le d m v h0 h k (by omega)
theorem bestN_ge (d : Array Int) (m v : Int) (j : Nat) (hj : j < d.size) (hv : d[j]! = v) (hm : m ≤ manyN d v d.size) : ∀ k, k ≤ d.size → j < k → v ≤ bestN d m k
  | 0, _, h => absurd h (by omega)
  | k + 1, hk, hjk => by
    unfold bestN
    rcases Nat.lt_or_ge j k with h | h
    · have := bestN_ge d m v j hj hv hm k (by omega) h
      split
      · omega
      · exact this
    · obtain rfl : j = k := by omega
      rw [hv]
      split
      · exact Int.le_refl _
      · rename_i hh
        rcases Int.lt_or_le (bestN d m j) v with hl | hl
        · exact absurd ⟨hl, hm⟩ hh
        · exact hl
theorem bad_no {x : Int} (h : badMark x = false) : 0 ≤ x ∧ x ≤ 1000000 := by
  unfold badMark at h; rw [decide_eq_false_iff_not] at h; omega
theorem marks_all {d : Array Int} (h : d.toList.any badMark = false) (x : Int) (hx : x ∈ d.toList) : 0 ≤ x ∧ x ≤ 1000000 := by
  rw [List.any_eq_false] at h
  exact bad_no (by simpa using h x hx)
/-- What the stable time is: its place in the sorted marks. -/
theorem ofS_spec {d : Array Int} {n : Int} (hm : marksE d n = 0) :
    ∃ (hk : (mostN n).toNat - 1 < (sortD d).toList.length), ofS d n = (sortD d).toList[(mostN n).toNat - 1] ∧ ofS d n ∈ d.toList ∧ mostN n ≤ manyN d (ofS d n) d.size ∧ (∀ t, ofS d n < t → (manyN d t d.size : Int) < mostN n) := by
  obtain ⟨n1, n2, n3, n4, n5⟩ := marks_size hm
  have hl : (sortD d).toList.length = d.size := by rw [Array.length_toList, size_sortD]
  have hk : (mostN n).toNat - 1 < (sortD d).toList.length := by omega
  have ho : ofS d n = (sortD d).toList[(mostN n).toNat - 1] := by
    unfold ofS; rw [if_pos hm, getElem!_pos _ _ (by rw [size_sortD]; omega)]; simp
  have hc := fun t => (sortD_perm d).countP_eq (fun x => decide (t ≤ x))
  have h1 := count_ge _ (sortD_pair d) _ hk
  rw [← ho, hc, ← manyN_all] at h1
  refine ⟨hk, ho, ?_, by omega, fun t ht => ?_⟩
  · rw [ho]; exact (sortD_perm d).mem_iff.1 (List.getElem_mem hk)
  · have h2 := count_lt _ (sortD_pair d) _ hk t (by rw [← ho]; exact ht)
    rw [hc, ← manyN_all] at h2
    omega
theorem ofS_eq (d : Array Int) (n : Int) : ofS d n = ofR d n := by
  by_cases hm : marksE d n = 0
  · obtain ⟨hk, ho, hmem, h1, h2⟩ := ofS_spec hm
    obtain ⟨n1, n2, n3, n4, n5⟩ := marks_size hm
    have h0 := (marks_all n5 _ hmem).1
    unfold ofR; rw [if_pos hm]
    obtain ⟨j, hj, hv⟩ := List.mem_iff_getElem.1 hmem
    have hj' : j < d.size := by simpa using hj
    have hv' : d[j]! = ofS d n := by rw [getElem!_pos d j hj']; simpa using hv
    have hge := bestN_ge d (mostN n) _ j hj' hv' h1 d.size (Nat.le_refl _) hj'
    have hle := bestN_le d (mostN n) _ h0 (fun i hi hmi => by
      rcases Int.lt_or_le (ofS d n) d[i]! with hl | hl
      · exact absurd hmi (by have := h2 _ hl; omega)
      · exact hl) d.size (Nat.le_refl _)
    omega
  · unfold ofS ofR; rw [if_neg hm, if_neg hm]
end Go.Proofs.YtgpejfkmdenonaaGreat
namespace Go.Proofs.YtgpejfkmdenonaaGreat
open Go.RowKit Go.Sort Go.Lib

theorem arr_ext_R {α : Type} [Inhabited α] {d1 d2 : Array α} (hs : d1.size = d2.size) (h : ∀ j, j < d1.size → d1[j]! = d2[j]!) : d1 = d2 :=
  Array.ext hs fun t h1 h2 => by have := h t h1; rwa [getElem!_pos d1 t h1, getElem!_pos d2 t h2] at this
set_option maxHeartbeats 1000000 in
theorem SameInts_any_R (A1 A2 : Option Addr) (c1 c2 : Nat) (d1 d2 : Array Int) (B1 B2 : Nat) (w : World) (h1 : RdI_R B1 w A1 d1) (h2 : RdI_R B2 w A2 d2) (hm : d2.size ≤ 100000000) :
    Calls Tryz.prog 18 #[.slice A1 d1.size c1, .slice A2 d2.size c2] w fun e w' => e = .returned (.bool (decide (d1 = d2))) ∧ ∃ n, w' = w.drewN n := by
  by_cases hs : d1.size = d2.size
  · have hb : ((d1.size : Int) != (d2.size : Int)) = false := by simp [hs]
    have HS := Lib.hid hs
    have hge : d1.size ≤ d2.size := by omega
    clear hs
    go_enter Tryz.func18, Tryz.ntmps18
    go_wp2
    go_loopw [5] (fun i wr => ∃ k n : Nat, k ≤ d1.size ∧ i = .int .i64 k ∧ wr = w.drewN n ∧ ∀ j, j < k → d1[j]! = d2[j]!) (fun i _ => d1.size - (intOf i).toNat)
    case atStart => exact ⟨0, 0, Nat.zero_le _, rfl, rfl, fun j hj => absurd hj (by omega)⟩
    case round =>
      obtain ⟨k, n, hk, rfl, rfl, hj⟩ := hrel
      have HJ := Lib.hid hj; clear hj
      by_cases hlt : k < d1.size
      · obtain ⟨b1, o1, rfl, _, f1⟩ := h1.at_ hlt
        obtain ⟨b2, o2, rfl, _, f2⟩ := h2.at_ (i := k) (by omega)
        have HX : Hid (k < d1.size) := hlt
        generalize hx : d1[k]! = x at f1
        generalize hy : d2[k]! = y at f2
        have HXX := Lib.hid hx; clear hx
        have HYY := Lib.hid hy; clear hy
        have kz : (k : Int) < (d1.size : Int) := by omega
        have kz2 : (k : Int) < (d2.size : Int) := by omega
        by_cases hxy : x = y
        · subst hxy
          go_wp2
          go_quiet (fail)
          go_wp2
          go_roundw
          case rel => exact ⟨k + 1, _, by omega, by go_num, rfl, fun j hj => by
            rcases Nat.lt_or_ge j k with h | h
            · exact HJ.out j h
            · obtain rfl : j = k := by omega
              rw [HXX.out, HYY.out]⟩
          case measure => simp [intOf]; omega
        · have hd : (x != y) = true := by simp [hxy]
          have HXY := Lib.hid hxy; clear hxy
          go_wp2
          go_quiet (fail)
          go_wp2
          go_ret
          exact ⟨ret_bool (by symm; rw [decide_eq_false_iff_not]; rintro rfl; exact HXY.out (by rw [← HXX.out, ← HYY.out])), _, World.drewN_drewN _ _ _⟩
      · go_wp2
        go_ret
        exact ⟨ret_bool (by symm; rw [decide_eq_true_iff]; exact arr_ext_R HS.out fun j hj => HJ.out j (by omega)), n, rfl⟩
  · have hb : ((d1.size : Int) != (d2.size : Int)) = true := by simp; omega
    have HS := Lib.hid hs; clear hs
    go_enter Tryz.func18, Tryz.ntmps18
    go_wp2
    go_ret
    exact ⟨ret_bool (by symm; rw [decide_eq_false_iff_not]; rintro rfl; exact HS.out rfl), 0, rfl⟩

def leastN (d : Array Int) : Int := Lib.minOf d.toList
/-- The set of those of the first k whose marks are at least t. -/
def whoN (d : Array Int) (t : Int) : Nat → Nat
  | 0 => 0
  | k + 1 => whoN d t k + if k < 9 ∧ t ≤ d[k]! then 2 ^ k else 0
theorem whoN_lt (d : Array Int) (t : Int) (k : Nat) : whoN d t k < 2 ^ k ∧ whoN d t k < 512 := by
  induction k with
  | zero => simp [whoN]
  | succ k ih =>
    unfold whoN
    have h2 : 2 ^ (k + 1) = 2 ^ k + 2 ^ k := by rw [Nat.pow_succ]; omega
    split
    · rename_i h
      have : 2 ^ k ≤ 2 ^ 8 := Nat.pow_le_pow_right (by decide) (by omega)
      have : (2 : Nat) ^ 8 = 256 := by decide
      refine ⟨by omega, ?_⟩
      have h3 : 2 ^ (k + 1) ≤ 2 ^ 9 := Nat.pow_le_pow_right (by decide) (by omega)
      have : (2 : Nat) ^ 9 = 512 := by decide
      omega
    · omega
theorem nat_of_bv (a : Nat) (ha : a < 9223372036854775808) : (BitVec.ofInt 64 (a : Int)).toNat = a := by
  rw [BitVec.ofInt_natCast, BitVec.toNat_ofNat]; exact Nat.mod_eq_of_lt (by omega)
theorem or_nat (a b : Nat) (ha : a < 9223372036854775808) (hb : b < 9223372036854775808) : bits .or .i64 (a : Int) (b : Int) = ((a ||| b : Nat) : Int) := by
  have hx : a ||| b < 2 ^ 63 := Nat.or_lt_two_pow (by omega) (by omega)
  show IntKind.i64.wrap ((BitVec.ofInt 64 (a : Int) ||| BitVec.ofInt 64 (b : Int)).toNat : Int) = _
  rw [BitVec.toNat_or, nat_of_bv a ha, nat_of_bv b hb, IntKind.wrap_i64]
  omega
theorem setB_nat (k : Nat) : setB ((k : Int) + 1) = ((if k < 9 then 2 ^ k else 0 : Nat) : Int) := by
  unfold setB
  by_cases h : k < 9
  · rw [if_neg (by omega), if_pos h, show ((k : Int) + 1).toNat - 1 = k by omega]; push_cast; rfl
  · rw [if_pos (by omega), if_neg h]; rfl
theorem or_bit (m k : Nat) (h1 : m < 2 ^ k) (h2 : m < 512) : bits .or .i64 (m : Int) (setB ((k : Int) + 1)) = ((m + if k < 9 then 2 ^ k else 0 : Nat) : Int) := by
  rw [setB_nat]
  by_cases h : k < 9
  · rw [if_pos h]
    have hk : 2 ^ k ≤ 2 ^ 8 := Nat.pow_le_pow_right (by decide) (by omega)
    have h8 : (2 : Nat) ^ 8 = 256 := by decide
    rw [or_nat _ _ (by omega) (by omega)]
    have := Nat.two_pow_add_eq_or_of_lt h1 1
    rw [Nat.mul_one] at this
    rw [Nat.or_comm, ← this, Nat.add_comm]
  · rw [if_neg h, or_nat _ _ (by omega) (by omega)]; simp
end Go.Proofs.YtgpejfkmdenonaaGreat
namespace Go.Proofs.YtgpejfkmdenonaaGreat
open Go.RowKit Go.Sort Go.Lib

theorem int_info_R : (Tryz.prog.info? 3).map (fun i => (i.zero, i.size, i.bytes)) = some (some (.int .i64 0), 1, 8) := by kernel_rfl
/-- A row of the call's own, of ints: it reads as its list. -/
theorem rdI_of_owns {w : World} {base : Nat} {e : TypeId} {v : Value} {l : List Int} (h : w.ownsRow base e 1 v l.length (l.map (Value.int .i64))) :
    ∃ A c, v = .slice A l.length c ∧ RdI_R w.heap.size w A l.toArray := by
  rcases Nat.eq_zero_or_pos l.length with h0 | h0
  · have : l = [] := List.eq_nil_of_length_eq_zero h0
    subst this
    obtain ⟨_, ⟨rfl, _⟩ | ⟨g, cap, cur, hv, _⟩⟩ := h
    · exact ⟨none, 0, rfl, RdI_R.none_⟩
    · exact ⟨_, cap, hv, RdI_R.none_⟩
  · have hn : v ≠ .slice none 0 0 := by
      rintro rfl
      obtain ⟨_, ⟨_, h1⟩ | ⟨g, cap, cur, hv, _⟩⟩ := h
      · omega
      · cases hv
    have h' : w.ownsRow base e 1 v l.toArray.size (l.toArray.toList.map (Value.int .i64)) := h
    obtain ⟨g, cap, hv, _, hlt, hH⟩ := holds_of_ownsI h' hn
    exact ⟨_, cap, hv, fun _ => ⟨g, 0, rfl, hlt, fun i hi => (hH i hi).1⟩⟩

theorem own_snoc {w : World} {base : Nat} {e : TypeId} {v : Value} {l : List Int} {x : Int} (h : w.ownsRow base e 1 v (l.length + 1) (l.map (Value.int .i64) ++ [.int .i64 x])) : w.ownsRow base e 1 v (l ++ [x]).length ((l ++ [x]).map (Value.int .i64)) := by
  simpa using h
theorem own_block {w : World} {base : Nat} {e : TypeId} {s n : Nat} {v : Value} {xs : List Value} (h : w.ownsRow base e s v n xs) (k : Nat) (hk : v.ownBlock = some k) : base ≤ k := by
  obtain ⟨_, ⟨rfl, _⟩ | ⟨g, cap, cur, rfl, hb, _⟩⟩ := h
  · cases hk
  · have : g = k := by simpa [Value.ownBlock] using hk
    omega
theorem app_cell (w : World) (x : Value) (e : TypeId) (j : Nat) (u : Value) (h : [x][j]? = some u) : (w.alloc (.cells #[x] e)).cell? (Addr.add ⟨w.heap.size, 0, none⟩ j) = some u := by
  have hj : j = 0 := by
    rcases Nat.eq_zero_or_pos j with h0 | h0
    · exact h0
    · obtain ⟨i, rfl⟩ : ∃ i, j = i + 1 := ⟨j - 1, by omega⟩
      simp at h
  subst hj
  have : x = u := by simpa using h
  subst this
  exact cell_new w _ _ 0
theorem app_below {w wr w1 : World} {o : Obj} {e : TypeId} {s n : Nat} {v : Value} {xs : List Value} (hb : Below w.heap.size w wr) (hown : wr.ownsRow w.heap.size e s v n xs) (hg : (wr.alloc o).grownBy w1 v.ownBlock) : Below w.heap.size w w1 :=
  (belAlloc hb o).grown hg (belAlloc hb o).size (own_block hown)

/-- Replicas as bits: the first r of them. -/
def setN (l : List Int) : Nat → Nat
  | 0 => 0
  | r + 1 => setN l r + if ((r : Int) + 1) ∈ l then 2 ^ r else 0
theorem setN_lt (l : List Int) (r : Nat) : setN l r < 2 ^ r := by
  induction r with
  | zero => simp [setN]
  | succ r ih => unfold setN; have : 2 ^ (r + 1) = 2 ^ r + 2 ^ r := by rw [Nat.pow_succ]; omega
                 split <;> omega
end Go.Proofs.YtgpejfkmdenonaaGreat
namespace Go.Proofs.YtgpejfkmdenonaaGreat
open Go.RowKit Go.Sort Go.Lib

def whoL (d : Array Int) (t : Int) : Nat → List Int
  | 0 => []
  | k + 1 => whoL d t k ++ if t ≤ d[k]! then [(k : Int) + 1] else []
theorem whoL_len (d : Array Int) (t : Int) (k : Nat) : (whoL d t k).length ≤ k := by
  induction k with
  | zero => simp [whoL]
  | succ k ih => unfold whoL; split <;> simp <;> omega
theorem whoL_mem (d : Array Int) (t : Int) (r : Int) : ∀ k, r ∈ whoL d t k ↔ ∃ j, j < k ∧ r = (j : Int) + 1 ∧ t ≤ d[j]!
  | 0 => by simp [whoL]
  | k + 1 => by
    unfold whoL
    rw [List.mem_append, whoL_mem d t r k]
    constructor
    · rintro (⟨j, hj, hr, ht⟩ | h)
      · exact ⟨j, by omega, hr, ht⟩
      · by_cases hx : t ≤ d[k]!
        · rw [if_pos hx] at h; exact ⟨k, by omega, by simpa using h, hx⟩
        · rw [if_neg hx] at h; simp at h
    · rintro ⟨j, hj, hr, ht⟩
      rcases Nat.lt_or_ge j k with h | h
      · exact Or.inl ⟨j, h, hr, ht⟩
      · obtain rfl : j = k := by omega
        right; rw [if_pos ht]; simpa using hr
theorem whoN_stay (d : Array Int) (t : Int) (n : Nat) : ∀ k, whoN d t (9 + k) = whoN d t 9
  | 0 => rfl
  | k + 1 => by rw [show 9 + (k + 1) = (9 + k) + 1 by omega, whoN, whoN_stay d t n k, if_neg (by omega)]; rfl
theorem who_eq (d : Array Int) (t : Int) : setN (whoL d t (min d.size 9)) 9 = whoN d t d.size := by
  have key : ∀ r, r ≤ 9 → setN (whoL d t (min d.size 9)) r = whoN d t (min d.size r) := by
    intro r
    induction r with
    | zero => intro _; simp [setN, whoN]
    | succ r ih =>
      intro hr
      rw [setN, ih (by omega)]
      by_cases hs : r < d.size
      · rw [show min d.size (r + 1) = r + 1 by omega, show min d.size r = r by omega, whoN]
        congr 1
        have : ((r : Int) + 1) ∈ whoL d t (min d.size 9) ↔ r < 9 ∧ t ≤ d[r]! := by
          rw [whoL_mem]
          constructor
          · rintro ⟨j, hj, hr, ht⟩
            obtain rfl : j = r := by omega
            exact ⟨by omega, ht⟩
          · rintro ⟨h9, ht⟩
            exact ⟨r, by omega, rfl, ht⟩
        by_cases hq : r < 9 ∧ t ≤ d[r]!
        · rw [if_pos (this.2 hq), if_pos hq]
        · rw [if_neg (fun h => hq (this.1 h)), if_neg hq]
      · rw [show min d.size (r + 1) = d.size by omega, show min d.size r = d.size by omega, if_neg]
        · rfl
        · rw [whoL_mem]
          rintro ⟨j, hj, hr, _⟩
          omega
  rw [key 9 (by omega)]
  rcases Nat.lt_or_ge d.size 9 with h | h
  · rw [show min d.size 9 = d.size by omega]
  · obtain ⟨k, hk⟩ : ∃ k, d.size = 9 + k := ⟨d.size - 9, by omega⟩
    rw [show min d.size 9 = 9 by omega, hk, whoN_stay d t 0 k]
end Go.Proofs.YtgpejfkmdenonaaGreat
namespace Go.Proofs.YtgpejfkmdenonaaGreat
open Go.RowKit Go.Sort Go.Lib

def mrgAt (d1 d2 : Array Int) (i : Nat) : Int := if i < d1.size then (if i < d2.size then max d1[i]! d2[i]! else d1[i]!) else d2[i]!
def mergeN (d1 d2 : Array Int) : Array Int := ((List.range (max d1.size d2.size)).map (mrgAt d1 d2)).toArray
theorem mergeN_size (d1 d2 : Array Int) : (mergeN d1 d2).size = max d1.size d2.size := by simp [mergeN]
theorem mergeN_at (d1 d2 : Array Int) (i : Nat) (h : i < max d1.size d2.size) : (mergeN d1 d2)[i]! = mrgAt d1 d2 i := by
  rw [getElem!_pos _ i (by rw [mergeN_size]; exact h)]; simp [mergeN]
theorem rd_merge {w : World} {g : Nat} {d1 d2 : Array Int} (hg : g < w.heap.size) (h : ∀ j, j < max d1.size d2.size → w.cell? ⟨g, j, none⟩ = some (.int .i64 (mrgAt d1 d2 j))) : RdI_R w.heap.size w (some ⟨g, 0, none⟩) (mergeN d1 d2) := fun _ =>
  ⟨g, 0, rfl, hg, fun i hi => by rw [mergeN_size] at hi; rw [Nat.zero_add, h i hi, mergeN_at _ _ _ hi]⟩
theorem frozen?_setCell_any (w : World) (p q : Addr) (v : Value) : (w.setCell p v).frozen? q = w.frozen? q := by
  unfold World.frozen? World.setCell
  simp only [Array.getElem?_modify]
  by_cases h : p.block = q.block
  · rw [if_pos h, ← h]
    cases hh : w.heap[p.block]? with
    | none => rfl
    | some o => cases o <;> rfl
  · rw [if_neg h]
theorem cell?_setCell_here (w : World) (g k : Nat) (u v : Value) (h : w.cell? ⟨g, k, none⟩ = some u) : (w.setCell ⟨g, k, none⟩ v).cell? ⟨g, k, none⟩ = some v := by
  simp [go_sem, h]
end Go.Proofs.YtgpejfkmdenonaaGreat
namespace Go.Proofs.YtgpejfkmdenonaaGreat
open Go.RowKit Go.Sort Go.Lib

def mrgL (d1 d2 : Array Int) : Nat → List Int
  | 0 => []
  | k + 1 => mrgL d1 d2 k ++ [mrgAt d1 d2 k]
theorem mrgL_len (d1 d2 : Array Int) (k : Nat) : (mrgL d1 d2 k).length = k := by
  induction k with
  | zero => rfl
  | succ k ih => simp [mrgL, ih]
theorem mrgL_eq (d1 d2 : Array Int) : ∀ k, mrgL d1 d2 k = (List.range k).map (mrgAt d1 d2)
  | 0 => rfl
  | k + 1 => by rw [mrgL, mrgL_eq d1 d2 k, List.range_succ, List.map_append]; rfl
end Go.Proofs.YtgpejfkmdenonaaGreat
namespace Go.Proofs.YtgpejfkmdenonaaGreat
open Go.RowKit Go.Sort Go.Lib
theorem aw7b (W : World) (A : Option Addr) (c : Nat) (hr : RdI_R W.heap.size W A #[7, 9, 2]) : Calls Tryz.prog 18 #[.slice A 3 c, .slice (some ⟨W.heap.size, 0, none⟩) 3 3] (W.alloc (.cells #[.int .i64 7, .int .i64 9, .int .i64 2] 3)) fun e w' => e = .returned (.bool true) ∧ Below W.heap.size W w' :=
  (SameInts_any_R A _ c 3 #[7, 9, 2] #[7, 9, 2] _ _ _ (hr.alloc (Nat.le_refl _) _) (RdI_R.new W #[7, 9, 2] 3 #[.int .i64 7, .int .i64 9, .int .i64 2] (by simp [encI_R])) (by decide)).mono fun _ _ ⟨he, n, hw⟩ => ⟨by rw [he]; simp, by rw [hw]; exact belDrewN (bel1 _ _) _⟩
end Go.Proofs.YtgpejfkmdenonaaGreat
namespace Go.Proofs.YtgpejfkmdenonaaGreat
open Go.RowKit Go.Sort Go.Lib

theorem append_rdI {P : Program} {w : World} {ops : Array Oper} {rest : List Oper} {o : Oper} {a : Act} {Q : Exit → Act → World → Prop} (hgd : o.guard = none) (s x : Operand) (t : TypeId)
    (ho : o.op = .call { callee := .builtin .append, args := #[s, x], argTypes := #[t, t] })
    (base : Nat) (e : TypeId) (i : TypeInfo) (z : Value) (ht : P.underlying t = some (.slice e)) (hi : P.info? e = some i) (hz : i.zero = some z) (hsize : i.size = 1) (hby : i.bytes = 8) (hzs : z.cells.size = 1)
    (v : Value) (n : Nat) (xs : List Value) (hs : a.eval s = v) (hown : w.ownsRow base e 1 v n xs) (B : Nat) (A : Option Addr) (c : Nat) (d : Array Int) (hx : a.eval x = .slice A d.size c) (hr : RdI_R B w A d) (hnil : A = none → c = 0)
    (h63 : n + d.size ≤ 100000000) (hbase : base ≤ w.heap.size)
    (h : ∀ v' w', w'.ownsRow base e 1 v' (n + d.size) (xs ++ d.toList.map (Value.int .i64)) → w.grownBy w' v.ownBlock → wpList P ops Q rest (a.put o.dst v') w') : wpList P ops Q (o :: rest) a w := by
  cases A with
  | none =>
    have h0 : d.size = 0 := by
      rcases Nat.eq_zero_or_pos d.size with h0 | h0
      · exact h0
      · obtain ⟨b, off, e, _⟩ := hr h0; cases e
    obtain rfl : d = #[] := Array.eq_empty_of_size_eq_zero h0
    rw [hnil rfl] at hx
    exact wpList_append_own_none hgd s x t ho base e i 1 ht hi v n xs hs hown hx (h v w (by simpa using hown) (World.grownBy.refl w _))
  | some ad =>
    refine wpList_append_own _ hgd s x t ho base e i z 1 8 ht hi hz hsize hby hzs (by decide) v n xs hs hown ad d.size c (d.toList.map (Value.int .i64)) hx (by simp) ?_ ?_ (by unfold maxLen; omega) (by omega) hbase fun v' w' h1 h2 _ => h v' w' h1 h2
    · intro j u hj
      rw [List.getElem?_map, Array.getElem?_toList] at hj
      rcases Nat.lt_or_ge j d.size with hlt | hge
      · obtain ⟨b, off, e1, _, hc⟩ := hr (by omega)
        injection e1 with e1
        subst e1
        rw [Array.getElem?_eq_getElem hlt] at hj
        have hu : Value.int .i64 d[j] = u := by simpa using hj
        rw [Addr.add_lit, hc j hlt, getElem!_pos d j hlt, hu]
      · rw [Array.getElem?_eq_none hge] at hj; simp at hj
    · intro u hu
      obtain ⟨y, _, rfl⟩ := List.mem_map.1 hu
      rfl
theorem empty_owns (w : World) (e : TypeId) : (w.alloc (.cells #[] e)).ownsRow w.heap.size e 1 (.slice (some ⟨w.heap.size, 0, none⟩) 0 0) 0 [] :=
  World.ownsRow_made w #[] 0 (Nat.le_refl _) (Nat.zero_le _) (by simp)

theorem mrg_ge1 (d1 d2 : Array Int) (i : Nat) (h : i < d1.size) : d1[i]! ≤ mrgAt d1 d2 i := by unfold mrgAt; rw [if_pos h]; split <;> omega
theorem mrg_ge2 (d1 d2 : Array Int) (i : Nat) (h : i < d2.size) : d2[i]! ≤ mrgAt d1 d2 i := by unfold mrgAt; split <;> simp [h] <;> omega
theorem many_mono (a b : Array Int) (t : Int) : ∀ k, (∀ i, i < k → a[i]! ≤ b[i]!) → manyN a t k ≤ manyN b t k
  | 0, _ => Nat.le_refl _
  | k + 1, h => by
    have := many_mono a b t k (fun i hi => h i (by omega))
    have h2 := h k (by omega)
    unfold manyN
    split <;> split <;> omega
theorem ofS_mono {a b : Array Int} {n : Int} (ha : marksE a n = 0) (hb : marksE b n = 0) (h : ∀ i, i < a.size → a[i]! ≤ b[i]!) : ofS a n ≤ ofS b n := by
  obtain ⟨_, _, _, h1, _⟩ := ofS_spec ha
  obtain ⟨_, _, _, _, h2⟩ := ofS_spec hb
  have sa := (marks_size ha).2.2.1
  have sb := (marks_size hb).2.2.1
  have hs : a.size = b.size := by omega
  rcases Int.lt_or_le (ofS b n) (ofS a n) with hl | hl
  · have := h2 _ hl
    have h3 := many_mono a b (ofS a n) a.size h
    rw [← hs] at this
    omega
  · exact hl
theorem marks_merge {a b : Array Int} {n : Int} (ha : marksE a n = 0) (hb : marksE b n = 0) : marksE (mergeN a b) n = 0 := by
  obtain ⟨n1, n2, sa, m, ba⟩ := marks_size ha
  obtain ⟨_, _, sb, _, bb⟩ := marks_size hb
  unfold marksE
  rw [if_neg]
  rintro (h | h | h)
  · omega
  · rw [mergeN_size] at h; omega
  · rw [any_bad_no] at h
    · cases h
    · intro j hj
      have hj' := hj
      rw [mergeN_size] at hj'
      rw [mergeN_at _ _ _ hj']
      have h1 := marks_all ba a[j]! (by rw [getElem!_pos a j (by omega)]; simp)
      have h2 := marks_all bb b[j]! (by rw [getElem!_pos b j (by omega)]; simp)
      unfold badMark mrgAt
      rw [if_pos (by omega), if_pos (by omega)]
      simp; omega
theorem min_le (l : List Int) : ∀ k, 1 ≤ k → k ≤ l.length → ∀ i, i < k → Lib.minOf (l.take k) ≤ l.getD i 0
  | 0, h, _, _, _ => absurd h (by omega)
  | 1, _, _, i, hi => by
    obtain rfl : i = 0 := by omega
    rw [minOf_one]; exact Int.le_refl _
  | k + 2, _, hk, i, hi => by
    rw [minOf_step l (k + 1) (by omega) (by omega)]
    rcases Nat.lt_or_ge i (k + 1) with h | h
    · have := min_le l (k + 1) (by omega) (by omega) i h; omega
    · obtain rfl : i = k + 1 := by omega
      omega
theorem min_at (l : List Int) : ∀ k, 1 ≤ k → k ≤ l.length → ∃ i, i < k ∧ Lib.minOf (l.take k) = l.getD i 0
  | 0, h, _ => absurd h (by omega)
  | 1, _, _ => ⟨0, by omega, minOf_one l⟩
  | k + 2, _, hk => by
    rw [minOf_step l (k + 1) (by omega) (by omega)]
    obtain ⟨i, hi, he⟩ := min_at l (k + 1) (by omega) (by omega)
    rcases Int.le_total (Lib.minOf (l.take (k + 1))) (l.getD (k + 1) 0) with h | h
    · exact ⟨i, by omega, by rw [Int.min_eq_left h, he]⟩
    · exact ⟨k + 1, by omega, by rw [Int.min_eq_right h]⟩
theorem least_mono {a b : Array Int} (hs : a.size = b.size) (h0 : 0 < a.size) (h : ∀ i, i < a.size → a[i]! ≤ b[i]!) : leastN a ≤ leastN b := by
  obtain ⟨i, hi, he⟩ := min_at b.toList b.size (by omega) (by simp)
  have h1 := min_le a.toList a.size (by omega) (by simp) i (by omega)
  rw [toList_getD] at h1 he
  rw [List.take_of_length_le (by simp)] at h1 he
  unfold leastN
  have := h i (by omega)
  omega
end Go.Proofs.YtgpejfkmdenonaaGreat
