/- known.Has, known.Same; the predicates of Add and Settle. known.Add, where it refuses; a row of its own with some elements taken out. known.Add, where it adds. known.Settle. known.Open, known.Same. rubatoref16.Same; the probes' plain facts. The document's Check and Has of what is known. What the document's union of ranges, ranges without a number, and commands that are open come to. -/
import Derived.Test.YtnmojicfmcbgmaaGreatQKnF
import Derived.Test.YtnmojicfmcbgmaaGreatQDelA
import Derived.Deep.RegionHeld3
namespace Go.Proofs.YtnmojicfmcbgmaaGreat
open Go.RowKit Go.Sort Go.Lib
set_option maxRecDepth 100000
theorem chkE_ne (k : KN) : (chkE k != 0) = !chkB k := by unfold chkE; cases chkB k <;> rfl
/-- Add's predicate: is a time known? -/
def addP (base : Int) (rs : Array (Int × Int)) (x : Int × Int) : Bool := decide (x.1 ≤ base) || hasB_R rs x.1
set_option maxHeartbeats 2000000 in
theorem kAdd1_any (base : Int) (rs : Array (Int × Int)) (A1 : Option Addr) (c1 : Nat) (x : Int × Int) (g : Nat) (w : World) (hg : g < w.heap.size) (hc0 : w.cell? ⟨g, 0, none⟩ = some (.int .i64 base)) (hc : w.cell? ⟨g, 1, none⟩ = some (.slice A1 rs.size c1)) (h : RdK encR 2 w.heap.size w A1 rs) :
    Calls Tryz.prog 104 #[.agg #[.int .i64 x.1, .int .i64 x.2], .pointer (some ⟨g, 0, none⟩)] w fun e w' => e = .returned (.bool (addP base rs x)) ∧ Below w.heap.size w w' := by
  have HR := Lib.hid h
  clear h
  have k0 : (w.alloc (.cells #[.int .i64 x.1, .int .i64 x.2] 29)).cell? ⟨g, 0, none⟩ = some (.int .i64 base) := (World.cell?_alloc_lt w _ _ hg).trans hc0
  have hc1 : (w.alloc (.cells #[.int .i64 x.1, .int .i64 x.2] 29)).cell? ⟨g, 1, none⟩ = some (.slice A1 rs.size c1) := (World.cell?_alloc_lt w _ _ hg).trans hc
  have HH := Lib.hid (gHas_any A1 c1 rs x.1 (w.alloc (.cells #[.int .i64 x.1, .int .i64 x.2] 29)) ((HR.out.alloc (Nat.le_refl _) _).mono (bel1 w _).size))
  have HP : Hid (addP base rs x = (decide (x.1 ≤ base) || hasB_R rs x.1)) := Lib.hid rfl
  generalize hasB_R rs x.1 = hv at HH HP
  cases hd : decide (x.1 ≤ base)
  · rw [hd, Bool.false_or] at HP
    go_enter Tryz.func104, Tryz.ntmps104
    go_wp2_with fail
    refine HH.out.mono ?_
    rintro e w1 ⟨rfl, hb1⟩
    go_wp2
    go_ret
    exact ⟨ret_bool HP.out.symm, belStep (bel1 w _) hb1⟩
  · rw [hd, Bool.true_or] at HP
    clear HH
    go_enter Tryz.func104, Tryz.ntmps104
    go_wp2
    go_ret
    exact ⟨ret_bool HP.out.symm, bel1 w _⟩
theorem cont_any (A : Option Addr) (c : Nat) (d : Array Int) (x : Int) (w : World) (h : RdI_R w.heap.size w A d) (hd : d.size ≤ 100000000) :
    Calls Tryz.prog 110 #[.slice A d.size c, .int .i64 x] w fun e w' => e = .returned (.bool (d.toList.contains x)) ∧ w = w' := by
  rcases Nat.eq_zero_or_pos d.size with h0 | h0
  · have e0 : d = #[] := Array.eq_empty_of_size_eq_zero h0
    subst e0
    exact (Tryz.slices_Contains_int_empty A c x w).mono fun e w' ⟨he, hw⟩ => ⟨by rw [he]; rfl, hw.symm⟩
  · obtain ⟨b, off, rfl, hb, hc⟩ := h h0
    have := Tryz.slices_Contains_int b off d.size c d.toList x w (by simp) (by omega) (fun j hj => by
      have hj' : j < d.size := by simpa using hj
      rw [hc j hj']
      simp [List.getD_eq_getElem?_getD, hj'])
    refine this.mono fun e w' ⟨he, hw⟩ => ⟨?_, hw.symm⟩
    rw [he, show d.toList.take d.size = d.toList from List.take_of_length_le (by simp)]
set_option maxHeartbeats 2000000 in
theorem kSet1_any (ids : Array Int) (A : Option Addr) (c : Nat) (x : Int × Int) (g : Nat) (w : World) (hg : g < w.heap.size) (hc : w.cell? ⟨g, 0, none⟩ = some (.slice A ids.size c)) (h : RdI_R w.heap.size w A ids) (hd : ids.size ≤ 100000000) :
    Calls Tryz.prog 109 #[.agg #[.int .i64 x.1, .int .i64 x.2], .pointer (some ⟨g, 0, none⟩)] w fun e w' => e = .returned (.bool (doneK ids x)) ∧ Below w.heap.size w w' := by
  have hc1 : (w.alloc (.cells #[.int .i64 x.1, .int .i64 x.2] 29)).cell? ⟨g, 0, none⟩ = some (.slice A ids.size c) := (World.cell?_alloc_lt w _ _ hg).trans hc
  have HH := Lib.hid (cont_any A c ids x.2 (w.alloc (.cells #[.int .i64 x.1, .int .i64 x.2] 29)) ((h.alloc (Nat.le_refl _) _).mono (bel1 w _).size) hd)
  have HP : Hid (doneK ids x = ids.toList.contains x.2) := Lib.hid rfl
  generalize ids.toList.contains x.2 = hv at HH HP
  clear h
  go_enter Tryz.func109, Tryz.ntmps109
  go_wp2_with fail
  refine HH.out.mono ?_
  rintro e w1 ⟨rfl, rfl⟩
  go_wp2
  go_ret
  exact ⟨ret_bool HP.out.symm, bel1 w _⟩
/-- Are two the same? -/
def sameK (k j : KN) : Bool := (k.base == j.base) && decide (k.rs = j.rs) && decide (k.ats = j.ats)
theorem sameK_iff {k j : KN} : sameK k j = true ↔ k = j := by
  obtain ⟨a, b, c⟩ := k
  obtain ⟨d, e, f⟩ := j
  unfold sameK
  simp [and_assoc]
end Go.Proofs.YtnmojicfmcbgmaaGreat
namespace Go.Proofs.YtnmojicfmcbgmaaGreat
open Go.RowKit Go.Sort Go.Lib
set_option maxRecDepth 100000
theorem two_blk (w : World) (o o' : Obj) : ((w.alloc o).alloc o').heap[w.heap.size]? = some o ∧ ((w.alloc o).alloc o').heap[w.heap.size + 1]? = some o' :=
  ⟨blk_alloc (heap_alloc_new w o), by rw [show w.heap.size + 1 = (w.alloc o).heap.size by simp]; exact heap_alloc_new _ _⟩
theorem blk3 {W : World} {g : Nat} {a b c : Value} {T : TypeId} (h : W.heap[g]? = some (.cells #[a, b, c] T (0, 0))) : (W.cell? ⟨g, 0, none⟩ = some a ∧ W.cell? ⟨g, 1, none⟩ = some b ∧ W.cell? ⟨g, 2, none⟩ = some c) ∧ ∀ i, W.frozen? ⟨g, i, none⟩ = false := by
  refine ⟨⟨?_, ?_, ?_⟩, fun i => by simp [World.frozen?, h]⟩
  · rw [cell_of_row W _ 0 _ _ (0, 0) h]; rfl
  · rw [cell_of_row W _ 1 _ _ (0, 0) h]; rfl
  · rw [cell_of_row W _ 2 _ _ (0, 0) h]; rfl
theorem blk_lt {W : World} {g : Nat} {o : Obj} (h : W.heap[g]? = some o) : g < W.heap.size := by
  rcases Nat.lt_or_ge g W.heap.size with h' | h'
  · exact h'
  · rw [Array.getElem?_eq_none h'] at h; cases h
theorem blk_bel {W W' : World} {g : Nat} {o : Obj} (h : W.heap[g]? = some o) (hb : Below W.heap.size W W') : W'.heap[g]? = some o := (hb.block g (blk_lt h)).trans h
set_option maxHeartbeats 1000000 in
theorem idxA_nil (fv : Value) (c : Nat) (w : World) :
    Calls Tryz.prog 143 #[.slice none 0 c, fv] w fun e w' => e = .returned (.int .i64 (-1)) ∧ w = w' := by
  go_enter Tryz.func143, Tryz.ntmps143
  go_wp2
  refine wp_loop_rounds 1 ?_; rw [rounds_succ]
  go_wp2
  go_ret
  exact ⟨rfl, rfl⟩
set_option maxHeartbeats 1000000 in
theorem delA_nil (fv : Value) (c : Nat) (w : World) :
    Calls Tryz.prog 102 #[.slice none 0 c, fv] w fun e w' => e = .returned (.slice none 0 c) ∧ w = w' := by
  go_enter Tryz.func102, Tryz.ntmps102
  go_wp2_with (go_at_call 143; refine (idxA_nil _ _ _).mono ?_; rintro e w' ⟨rfl, rfl⟩)
  go_ret
  exact ⟨rfl, rfl⟩
/-- DeleteFunc on a row of the call's own. -/
theorem delA_own (p : Int × Int → Bool) (g : Nat) (lb : Array Value) (eg : ∀ args w, (callFunc g args).run Tryz.prog w = .ok (.enter g args) w) (v : Value) (d : Array (Int × Int)) (B : Nat) (w : World)
    (hp : ∀ W x, (∀ i, i < B → W.heap[i]? = w.heap[i]?) → B ≤ W.heap.size → Calls Tryz.prog g (#[.agg (encA_I x).toArray] ++ lb) W fun e w' => e = .returned (.bool (p x)) ∧ Below W.heap.size W w')
    (hown : w.ownsRow B 29 2 v d.size (flatK encA_I 2 d).toList) (hB : B ≤ w.heap.size) (hsz : d.size ≤ 1000000) :
    Calls Tryz.prog 102 #[v, .func (.func g) #[] lb] w fun e w' => ∃ A c, e = .returned (.slice A (d.toList.filter fun x => !p x).toArray.size c) ∧ RdK encA_I 2 w'.heap.size w' A (d.toList.filter fun x => !p x).toArray ∧ (A = none → c = 0) ∧ (∀ g off, A = some ⟨g, off, none⟩ → B ≤ g) ∧ Below B w w' := by
  by_cases hn : v = .slice none 0 0
  · subst hn
    have h0 : d.size = 0 := by
      obtain ⟨_, ⟨_, h0⟩ | ⟨g, cap, cur, hv, _⟩⟩ := hown
      · exact h0
      · cases hv
    obtain rfl : d = #[] := Array.eq_empty_of_size_eq_zero h0
    refine (delA_nil _ 0 w).mono ?_
    rintro e w' ⟨rfl, rfl⟩
    exact ⟨none, 0, rfl, fun h => absurd h (by simp), fun _ => rfl, (fun g off e => by cases e), Below.refl _ _⟩
  · have hcap : ∀ gg cap, v = .slice (some ⟨gg, 0, none⟩) d.size cap → d.size ≤ cap := fun gg cap e => by
      obtain ⟨_, ⟨h1, _⟩ | ⟨g2, cap2, cur, hv, _, _, hnc, _⟩⟩ := hown
      · exact absurd h1 hn
      · rw [hv] at e
        injection e with _ _ e3
        omega
    obtain ⟨gb, cap, rfl, hgb, hlt, hH⟩ := holds_of_owns hown hn
    refine (attDel p g lb eg gb 0 cap d w (fun W x hg => hp W x (fun i hi => hg.block i (by omega) (fun e => by injection e with e; omega)) (Nat.le_trans hB hg.size)) hH hlt hsz (hcap _ _ rfl)).mono ?_
    rintro e w' ⟨rfl, hg, hr⟩
    exact ⟨_, _, rfl, hr, (fun h => by cases h), (fun g off e => by injection e with e; injection e with e1 e2; omega), ⟨hg.os, hg.tape, hg.output, hg.size, fun i hi => hg.block i (by omega) (fun e => by injection e with e; omega)⟩⟩
end Go.Proofs.YtnmojicfmcbgmaaGreat
namespace Go.Proofs.YtnmojicfmcbgmaaGreat
open Go.RowKit Go.Sort Go.Lib
set_option maxRecDepth 100000
theorem RdK.blocks {α : Type} [Inhabited α] {enc : α → List Value} {k B0 B : Nat} {w W : World} {A : Option Addr} {d : Array α} (h : RdK enc k B0 w A d) (hB : B0 ≤ B) (hb : ∀ i, i < B → W.heap[i]? = w.heap[i]?) : RdK enc k B0 W A d := fun h0 => by
  obtain ⟨b, off, e, hlt, hc⟩ := h h0
  exact ⟨b, off, e, hlt, fun t ht => (World.cell?_of_block (a := ⟨b, off + t, none⟩) (hb b (by omega))).trans (hc t ht)⟩
theorem RdK.far {α : Type} [Inhabited α] {enc : α → List Value} {k B : Nat} {w : World} {A : Option Addr} {d : Array α} (h : RdK enc k B w A d) (p : Addr) (v : Value) (hp : ∀ g off, A = some ⟨g, off, none⟩ → g ≠ p.block) : RdK enc k B (w.setCell p v) A d := fun h0 => by
  obtain ⟨b, off, e, hlt, hc⟩ := h h0
  exact ⟨b, off, e, hlt, fun t ht => (World.cell?_setCell_far w p ⟨b, off + t, none⟩ v (Ne.symm (hp b off e))).trans (hc t ht)⟩
theorem rdI_blk {w : World} {g : Nat} {d : Array Int} {T : TypeId} (h : w.heap[g]? = some (.cells (d.map encI_R) T (0, 0))) : RdI_R w.heap.size w (some ⟨g, 0, none⟩) d := fun _ =>
  ⟨g, 0, rfl, blk_lt h, fun t ht => by
    rw [Nat.zero_add, cell_of_row w g t _ _ (0, 0) h]
    simp [encI_R, ht]⟩
theorem SrtK.putLo {w w1 : World} {g : Nat} {dk : Array (Int × Int)} (h : SrtK encR 2 w g 0 dk w1) {k : Nat} (hk : k < dk.size) (a : Int) : SrtK encR 2 w g 0 (dk.setIfInBounds k (a, dk[k]!.2)) (w1.setCell ⟨g, k * 2, none⟩ (.int .i64 a)) := by
  have hik : k * 2 + 2 ≤ dk.size * 2 := by omega
  refine ⟨?_, h.lt, grown_trans_K h.grown (grown_setCell _ _ _ _)⟩
  unfold HoldsK
  rw [flatK_put encR_len dk k hk]
  have h1 := holds_setCells_c h.holds (k * 2) [.int .i64 a] (by rw [size_flatK]; simp; omega)
  have e1 : (flatK encR 2 dk)[k * 2 + 1]! = .int .i64 dk[k]!.2 := by
    rw [flat_at encR 2 dk k 1 hk (by decide)]; rfl
  have e : setMany (flatK encR 2 dk) (k * 2) (encR (a, dk[k]!.2)) = setMany (flatK encR 2 dk) (k * 2) [.int .i64 a] := by
    have hs : k * 2 + 1 < (flatK encR 2 dk).size := by rw [size_flatK]; omega
    apply Array.ext
    · simp
    · intro t h1 h2
      have ht : t < (flatK encR 2 dk).size := by simpa using h1
      rw [← getElem!_pos _ t h1, ← getElem!_pos _ t h2, get_setMany _ _ _ t ht, get_setMany _ _ _ t ht]
      by_cases c1 : t = k * 2
      · subst c1; simp [encR]
      · by_cases c2 : t = k * 2 + 1
        · subst c2
          rw [e1]
          simp [encR]
        · have l2 : (encR (a, dk[k]!.2)).length = 2 := rfl
          have l1 : [Value.int .i64 a].length = 1 := rfl
          rw [l2, l1, if_neg (by omega), if_neg (by omega)]
  rw [e]
  have h2 := h1
  rw [Nat.zero_add] at h2
  exact h2
def mxR (base : Int) (r : Int × Int) : Int × Int := (max r.1 (base + 1), r.2)
theorem moreK_eq (base lo hi : Int) (told : List Int) : moreK base lo hi told = (betL lo hi (lo + 1) told).toArray.map (mxR base) := by
  unfold moreK mxR
  simp
/-- Add's first loop, at a round's head. -/
def MxL (base : Int) (bt : Array (Int × Int)) (g : Nat) (w : World) (iv : Value) (wr : World) : Prop := ∃ (k : Nat) (dk : Array (Int × Int)), iv = .int .i64 (k : Int) ∧ k ≤ bt.size ∧ dk.size = bt.size ∧ (∀ j, j < k → dk[j]! = mxR base bt[j]!) ∧ (∀ j, k ≤ j → dk[j]! = bt[j]!) ∧ SrtK encR 2 w g 0 dk wr
theorem betL_ne (lo hi : Int) : ∀ (l : List Int) (at' : Int), betL lo hi at' l ≠ []
  | [], _ => by rw [betL]; simp
  | t :: l, at' => by
    rw [betL]
    split
    · simp
    · exact betL_ne lo hi l at'
end Go.Proofs.YtnmojicfmcbgmaaGreat
namespace Go.Proofs.YtnmojicfmcbgmaaGreat
open Go.RowKit Go.Sort Go.Lib
set_option maxRecDepth 100000
theorem RdI_R.next {w w' : World} {A : Option Addr} {d : Array Int} (h : RdI_R w.heap.size w A d) (hb : Below w.heap.size w w') : RdI_R w'.heap.size w' A d := (h.below hb).mono hb.size
theorem three_blk (w : World) (o o' o'' : Obj) : (((w.alloc o).alloc o').alloc o'').heap[w.heap.size]? = some o ∧ (((w.alloc o).alloc o').alloc o'').heap[w.heap.size + 1]? = some o' ∧ (((w.alloc o).alloc o').alloc o'').heap[w.heap.size + 2]? = some o'' :=
  ⟨blk_alloc (two_blk w o o').1, blk_alloc (two_blk w o o').2, by rw [show w.heap.size + 2 = ((w.alloc o).alloc o').heap.size by simp]; exact heap_alloc_new _ _⟩
theorem blk1 {W : World} {g : Nat} {a : Value} {T : TypeId} (h : W.heap[g]? = some (.cells #[a] T (0, 0))) : W.cell? ⟨g, 0, none⟩ = some a := by rw [cell_of_row W g 0 _ _ (0, 0) h]; rfl
def setlL (ids : Array Int) (l : List (Int × Int)) : List (Int × Int) := (l.filter (doneK ids)).map fun a => (a.1, a.1)
/-- Settle's loop, at a round's head. -/
def StL (ids : Array Int) (ats : Array (Int × Int)) (w : World) (ov iv : Value) (wr : World) : Prop := ∃ (j : Nat) (out : Array (Int × Int)), iv = .int .i64 (j : Int) ∧ j ≤ ats.size ∧ out.size ≤ j ∧ setlL ids ats.toList = out.toList ++ setlL ids (ats.toList.drop j) ∧ wr.ownsRow w.heap.size 81 2 ov out.size (flatK encR 2 out).toList ∧ Below w.heap.size w wr
end Go.Proofs.YtnmojicfmcbgmaaGreat
namespace Go.Proofs.YtnmojicfmcbgmaaGreat
open Go.RowKit Go.Sort Go.Lib
set_option maxRecDepth 100000
theorem compact_ok (d : Array Int) (hs : ∀ i j, i ≤ j → j < d.size → d[i]! ≤ d[j]!) : ∀ m, m ≤ d.size → (compactUpTo d m).Pairwise (· < ·) ∧ ∀ x, x ∈ compactUpTo d m ↔ ∃ j, j < m ∧ d[j]! = x
  | 0, _ => by simp [compactUpTo]
  | m + 1, hm => by
    obtain ⟨h1, h2⟩ := compact_ok d hs m (by omega)
    rw [compactUpTo_succ]
    cases hk : keeps d m
    · have hk' : ¬ (m = 0 ∨ d[m]! ≠ d[m - 1]!) := by unfold keeps at hk; simpa using hk
      have hm0 : m ≠ 0 := fun h => hk' (Or.inl h)
      have heq : d[m]! = d[m - 1]! := Classical.byContradiction fun h => hk' (Or.inr h)
      refine ⟨by simpa using h1, fun x => ?_⟩
      simp only [Bool.false_eq_true, if_false, List.append_nil]
      rw [h2]
      constructor
      · rintro ⟨j, hj, e⟩
        exact ⟨j, by omega, e⟩
      · rintro ⟨j, hj, e⟩
        by_cases hjm : j = m
        · subst hjm
          exact ⟨j - 1, by omega, by rw [← heq]; exact e⟩
        · exact ⟨j, by omega, e⟩
    · have hk' : m = 0 ∨ d[m]! ≠ d[m - 1]! := by unfold keeps at hk; simpa using hk
      refine ⟨?_, fun x => ?_⟩
      · simp only [if_true]
        refine List.pairwise_append.2 ⟨h1, by simp, fun x hx y hy => ?_⟩
        obtain ⟨j, hj, rfl⟩ := (h2 x).1 hx
        obtain rfl : y = d[m]! := by simpa using hy
        have a1 := hs j (m - 1) (by omega) (by omega)
        have a2 := hs (m - 1) m (by omega) (by omega)
        rcases hk' with h0 | h0
        · omega
        · omega
      · simp only [if_true, List.mem_append, List.mem_singleton]
        rw [h2]
        constructor
        · rintro (⟨j, hj, e⟩ | rfl)
          · exact ⟨j, by omega, e⟩
          · exact ⟨m, by omega, rfl⟩
        · rintro ⟨j, hj, e⟩
          by_cases hjm : j = m
          · subst hjm; exact Or.inr e.symm
          · exact Or.inl ⟨j, by omega, e⟩
theorem compact_sorted (l : List Int) : (compact (l.mergeSort fun x y => decide (x ≤ y))).Pairwise (· < ·) ∧ ∀ x, x ∈ compact (l.mergeSort fun x y => decide (x ≤ y)) ↔ x ∈ l := by
  have hp := List.mergeSort_perm l (fun x y => decide (x ≤ y))
  have hs : (l.mergeSort fun x y => decide (x ≤ y)).Pairwise (· ≤ ·) := by
    have := List.pairwise_mergeSort (le := fun x y : Int => decide (x ≤ y)) (fun a b c h1 h2 => by simp at *; omega) (fun a b => by simp; omega) l
    exact this.imp (fun h => by simpa using h)
  generalize (l.mergeSort fun x y => decide (x ≤ y)) = s at hp hs
  have hg : ∀ i j, i ≤ j → j < s.toArray.size → s.toArray[i]! ≤ s.toArray[j]! := fun i j hij hj => by
    have hj' : j < s.length := by simpa using hj
    rcases Nat.eq_or_lt_of_le hij with rfl | hlt
    · exact Int.le_refl _
    · have := List.pairwise_iff_getElem.1 hs i j (by omega) hj' hlt
      rw [getElem!_pos _ i (by simp; omega), getElem!_pos _ j hj]
      simpa using this
  obtain ⟨h1, h2⟩ := compact_ok s.toArray hg s.length (by simp)
  refine ⟨h1, fun x => ?_⟩
  have h3 : x ∈ compact s ↔ ∃ j, j < s.length ∧ s.toArray[j]! = x := h2 x
  rw [h3, ← hp.mem_iff, List.mem_iff_getElem]
  constructor
  · rintro ⟨j, hj, e⟩
    exact ⟨j, hj, by rw [getElem!_pos _ j (by simpa using hj)] at e; simpa using e⟩
  · rintro ⟨j, hj, e⟩
    exact ⟨j, hj, by rw [getElem!_pos _ j (by simpa using hj)]; simpa using e⟩
/-- s holds the numbers of the commands that are open, each once, the least one ahead. -/
structure OpenR (k : KN) (s : Array Int) : Prop where
  up : s.toList.Pairwise (· < ·)
  mem : ∀ x, x ∈ s.toList ↔ chkB k = true ∧ x ∈ k.ats.toList.map (·.2)
theorem up_ext : ∀ {a b : List Int}, a.Pairwise (· < ·) → b.Pairwise (· < ·) → (∀ x, x ∈ a ↔ x ∈ b) → a = b
  | [], [], _, _, _ => rfl
  | [], y :: b, _, _, h => absurd ((h y).2 (by simp)) (by simp)
  | x :: a, [], _, _, h => absurd ((h x).1 (by simp)) (by simp)
  | x :: a, y :: b, h1, h2, h => by
    obtain ⟨p1, p2⟩ := List.pairwise_cons.1 h1
    obtain ⟨q1, q2⟩ := List.pairwise_cons.1 h2
    have hxy : x = y := by
      rcases List.mem_cons.1 ((h x).1 (by simp)) with e | hx
      · exact e
      · rcases List.mem_cons.1 ((h y).2 (by simp)) with e | hy
        · exact e.symm
        · have := q1 x hx; have := p1 y hy; omega
    subst hxy
    rw [up_ext p2 q2 (fun z => ⟨fun hz => ?_, fun hz => ?_⟩)]
    · rcases List.mem_cons.1 ((h z).1 (by simp [hz])) with e | hz'
      · have := p1 z hz; omega
      · exact hz'
    · rcases List.mem_cons.1 ((h z).2 (by simp [hz])) with e | hz'
      · have := q1 z hz; omega
      · exact hz'
theorem OpenR.uniq {k : KN} {s t : Array Int} (h : OpenR k s) (g : OpenR k t) : s = t :=
  Array.toList_inj.1 (up_ext h.up g.up (fun x => (h.mem x).trans (g.mem x).symm))
theorem own_ints {w : World} {base : Nat} {e : TypeId} {v : Value} {l : List Int} (h : w.ownsRow base e 1 v l.length (l.map (Value.int .i64))) (hn : v ≠ .slice none 0 0) : ∃ g cap, v = .slice (some ⟨g, 0, none⟩) l.length cap ∧ l.length ≤ cap ∧ base ≤ g ∧ g < w.heap.size ∧ Holds (Value.int .i64) w g 0 l.toArray := by
  obtain ⟨_, ⟨h1, _⟩ | ⟨g, cap, cur, hv, hb, hh, hnc, hmx, hcur, htk⟩⟩ := h
  · exact absurd h1 hn
  · refine ⟨g, cap, hv, hnc, hb, blk_lt hh, fun j hj => ?_⟩
    have hj' : j < l.length := by simpa using hj
    rw [Nat.zero_add]
    refine ⟨?_, by simp [World.frozen?, hh]⟩
    rw [cell_of_row w g j _ _ (0, 0) hh]
    have e1 : cur.toList[j]? = (l.map (Value.int .i64))[j]? := by rw [← htk, List.getElem?_take_of_lt (by omega)]
    rw [Array.getElem?_toList] at e1
    rw [e1]
    simp [hj']
theorem below_putRow {w w1 : World} {B g off : Nat} (hb : Below B w w1) (hz : B ≤ w1.heap.size) (hg : B ≤ g) (n : Nat) (d : Array Int) (os : Array Obj) : Below B w (grow (putRow (Value.int .i64) (Sort.ahead w1 n) g off d) os) := by
  have hsz : (putRow (Value.int .i64) (Sort.ahead w1 n) g off d).heap.size = w1.heap.size := size_putRow _ _ _ _ _
  refine ⟨hb.os, hb.tape, hb.output, ?_, fun i hi => ?_⟩
  · show _ ≤ ((putRow (Value.int .i64) (Sort.ahead w1 n) g off d).heap ++ os).size
    rw [Array.size_append, hsz]
    have := hb.size
    omega
  · have h1 : ((putRow (Value.int .i64) (Sort.ahead w1 n) g off d).heap)[i]? = w1.heap[i]? := by
      show ((Sort.ahead w1 n).heap.modify g _)[i]? = _
      rw [Array.getElem?_modify, if_neg (by omega)]
      rfl
    show ((putRow (Value.int .i64) (Sort.ahead w1 n) g off d).heap ++ os)[i]? = _
    rw [Array.getElem?_append_left (by rw [hsz]; omega), h1]
    exact hb.block i hi
set_option maxHeartbeats 4000000 in
theorem kSame_any (v1 v2 : Value) (k j : KN) (w : World) (h1 : KnV w v1 k) (h2 : KnV w v2 j) (s1 : k.rs.size ≤ 100000) (s2 : k.ats.size ≤ 100000) (s3 : j.rs.size ≤ 100000) (s4 : j.ats.size ≤ 100000) :
    Calls Tryz.prog 45 #[v1, v2] w fun e w' => e = .returned (.bool (sameK k j)) ∧ Below w.heap.size w w' := by
  obtain ⟨b1, r1, a1⟩ := k
  obtain ⟨b2, r2, a2⟩ := j
  obtain ⟨A1, c1, A2, c2, rfl, p1, p2, _, _⟩ := h1
  obtain ⟨A3, c3, A4, c4, rfl, p3, p4, _, _⟩ := h2
  have HR : Hid (∀ W, Below w.heap.size w W → Calls Tryz.prog 50 #[.slice A1 r1.size c1, .slice A3 r2.size c3] W fun e w' => e = .returned (.bool (decide (r1 = r2))) ∧ Below W.heap.size W w') := fun W hb => EqRngsK_any A1 A3 c1 c3 r1 r2 _ _ W (p1.below hb) (p3.below hb) (by simp only at s1; omega) (by simp only at s3; omega)
  have HA : Hid (∀ W, Below w.heap.size w W → Calls Tryz.prog 43 #[.slice A2 a1.size c2, .slice A4 a2.size c4] W fun e w' => e = .returned (.bool (decide (a1 = a2))) ∧ Below W.heap.size W w') := fun W hb => EqAttsK_any A2 A4 c2 c4 a1 a2 _ _ W (p2.below hb) (p4.below hb) (by simp only at s2; omega) (by simp only at s4; omega)
  have HT := Lib.hid (two_blk w (.cells #[.int .i64 b1, .slice A1 r1.size c1, .slice A2 a1.size c2] 53) (.cells #[.int .i64 b2, .slice A3 r2.size c3, .slice A4 a2.size c4] 53))
  have HS : Hid (sameK ⟨b1, r1, a1⟩ ⟨b2, r2, a2⟩ = ((b1 == b2) && decide (r1 = r2) && decide (a1 = a2))) := Lib.hid rfl
  clear p1 p2 p3 p4 s1 s2 s3 s4
  generalize decide (r1 = r2) = er at HR HS
  generalize decide (a1 = a2) = ea at HA HS
  generalize sameK ⟨b1, r1, a1⟩ ⟨b2, r2, a2⟩ = sk at HS
  cases hb : (b1 == b2)
  · rw [hb] at HS
    have HF : Hid (sk = false) := HS.out
    clear HS HR HA
    go_enter Tryz.func45, Tryz.ntmps45
    go_wp2
    go_ret
    exact ⟨ret_bool HF.out.symm, belAlloc (bel1 w _) _⟩
  · rw [hb, Bool.true_and] at HS
    cases er
    · have HF : Hid (sk = false) := HS.out
      clear HS HA
      go_enter Tryz.func45, Tryz.ntmps45
      go_wp2_with fail
      refine (HR.out _ (belAlloc (bel1 w _) _)).mono ?_
      rintro e w1 ⟨rfl, hb1⟩
      have HB1 := Lib.hid (belStep (belAlloc (bel1 w _) _) hb1)
      clear hb1
      go_wp2
      go_ret
      exact ⟨ret_bool HF.out.symm, HB1.out⟩
    · have HF : Hid (sk = ea) := HS.out
      clear HS
      go_enter Tryz.func45, Tryz.ntmps45
      go_wp2_with fail
      refine (HR.out _ (belAlloc (bel1 w _) _)).mono ?_
      rintro e w1 ⟨rfl, hb1⟩
      obtain ⟨⟨u0, u1, u2⟩, _⟩ := blk3 (blk_bel HT.out.1 hb1)
      obtain ⟨⟨k0, k1, k2⟩, _⟩ := blk3 (blk_bel HT.out.2 hb1)
      have HB1 := Lib.hid (belStep (belAlloc (bel1 w _) _) hb1)
      have HAA := Lib.hid (HA.out w1 HB1.out)
      clear hb1 HA HR
      go_wp2_with fail
      refine HAA.out.mono ?_
      rintro e w2 ⟨rfl, hb2⟩
      go_wp2
      go_ret
      exact ⟨ret_bool HF.out.symm, belStep HB1.out hb2⟩
theorem rdI_put {w : World} {g n : Nat} {l : List Int} {z : List Int} {s : Array Int} (hs : Holds (Value.int .i64) (Sort.ahead w n) g 0 s) (hsz : (l ++ z).length = s.size) (hg : g < w.heap.size) : RdI_R (putRow (Value.int .i64) (Sort.ahead w n) g 0 (l ++ z).toArray).heap.size (putRow (Value.int .i64) (Sort.ahead w n) g 0 (l ++ z).toArray) (some ⟨g, 0, none⟩) l.toArray := fun _ => by
  have hp := holds_putRow (Value.int .i64) (Sort.ahead w n) g 0 s (l ++ z).toArray hs (by simpa using hsz)
  refine ⟨g, 0, rfl, by rw [size_putRow]; exact hg, fun t ht => ?_⟩
  have ht' : t < l.length := by simpa using ht
  have hlt : t < (l ++ z).toArray.size := by simp; omega
  rw [(hp t hlt).1, getElem!_pos _ t hlt, getElem!_pos _ t ht]
  simp [List.getElem_append_left ht']
theorem holds_pre {w : World} {g n : Nat} {l : List Int} {z : List Int} {s : Array Int} (hs : Holds (Value.int .i64) (Sort.ahead w n) g 0 s) (hsz : (l ++ z).length = s.size) : Holds (Value.int .i64) (putRow (Value.int .i64) (Sort.ahead w n) g 0 (l ++ z).toArray) g 0 l.toArray := fun t ht => by
  have hp := holds_putRow (Value.int .i64) (Sort.ahead w n) g 0 s (l ++ z).toArray hs (by simpa using hsz)
  have ht' : t < l.length := by simpa using ht
  have hlt : t < (l ++ z).toArray.size := by simp; omega
  refine ⟨?_, (hp t hlt).2⟩
  rw [(hp t hlt).1, getElem!_pos _ t hlt, getElem!_pos _ t ht]
  simp [List.getElem_append_left ht']
/-- A row of numbers in a block of its own, behind B. -/
def OwnB (B : Nat) (w : World) (A : Option Addr) (c : Nat) (s : Array Int) : Prop := s = #[] ∨ ∃ g, A = some ⟨g, 0, none⟩ ∧ B ≤ g ∧ g < w.heap.size ∧ Holds (Value.int .i64) w g 0 s ∧ s.size ≤ c
set_option maxHeartbeats 8000000 in
theorem kOpenB_any (v : Value) (k : KN) (w : World) (h : KnV w v k) (s1 : k.ats.size ≤ 100000) :
    Calls Tryz.prog 113 #[v] w fun e w' => (∃ A s c, e = .returned (.slice A s.size c) ∧ OpenR k s ∧ RdI_R w'.heap.size w' A s ∧ s.size ≤ k.ats.size ∧ OwnB w.heap.size w' A c s) ∧ Below w.heap.size w w' := by
  obtain ⟨i0, hi0, hz0, hz1, hz2⟩ := info_parts int_info_R
  obtain ⟨base, rs, ats⟩ := k
  obtain ⟨A1, c1, A2, c2, rfl, h1, h2, _, _⟩ := h
  have HC : Hid (∀ W, Below w.heap.size w W → Calls Tryz.prog 79 #[.agg #[.int .i64 base, .slice A1 rs.size c1, .slice A2 ats.size c2]] W fun e w' => e = .returned (.int .i64 (chkE ⟨base, rs, ats⟩)) ∧ Below W.heap.size W w') := fun W hb => kCheck_let base rs ats A1 c1 A2 c2 W ((h1.below hb).mono hb.size) ((h2.below hb).mono hb.size)
  have q0 := chkE_ne ⟨base, rs, ats⟩
  have H2 := Lib.hid h2
  simp only at s1
  clear h1 h2
  generalize chkE ⟨base, rs, ats⟩ = ce at q0 HC
  cases hc : chkB ⟨base, rs, ats⟩
  · have HN : Hid (OpenR ⟨base, rs, ats⟩ #[]) := ⟨by simp, fun x => by rw [hc]; simp⟩
    rw [hc] at q0
    clear hc
    go_enter Tryz.func113, Tryz.ntmps113
    go_wp2_with fail
    refine (HC.out _ (bel1 w _)).mono ?_
    rintro e w1 ⟨rfl, hb1⟩
    have HB1 := Lib.hid (belStep (bel1 w _) hb1)
    clear hb1
    go_wp2
    refine bodyPost_ret (v := .slice none 0 0) (by simp [results, Tryz.results113, go_sem]) rfl ⟨⟨none, #[], 0, rfl, HN.out, RdI_R.none_, Nat.zero_le _, Or.inl rfl⟩, HB1.out⟩
  · have HCk := Lib.hid hc
    rw [hc] at q0
    clear hc
    go_enter Tryz.func113, Tryz.ntmps113
    go_wp2_with fail
    refine (HC.out _ (bel1 w _)).mono ?_
    rintro e w1 ⟨rfl, hb1⟩
    obtain ⟨u0, u1, u2⟩ := box3 hb1
    have HB1 := Lib.hid (belStep (bel1 w _) hb1)
    clear hb1 HC
    go_wp2
    go_loopw [3, 12] (fun ov iv wr => ∃ (j : Nat) (l : List Int), iv = .int .i64 (j : Int) ∧ j ≤ ats.size ∧ l.length ≤ j ∧ ats.toList.map (·.2) = l ++ (ats.toList.drop j).map (·.2) ∧ wr.ownsRow w1.heap.size 3 1 ov l.length (l.map (Value.int .i64)) ∧ Below w1.heap.size w1 wr) (fun _ i _ => ats.size - (intOf i).toNat)
    case atStart => exact ⟨0, [], rfl, Nat.zero_le _, Nat.le_refl _, rfl, World.ownsRow_nil _ _ _ _, Below.refl _ _⟩
    case round =>
      clear u0 u1 u2
      obtain ⟨j, l, rfl, hj, hl, he, hown, hB⟩ := hrel
      have HE := Lib.hid he
      have HB := Lib.hid hB
      clear he hB
      by_cases hlt : j < ats.size
      · have jz : (j : Int) < (ats.size : Int) := by omega
        obtain ⟨b, off, rfl, hbl, f⟩ := (H2.out.below (belStep HB1.out HB.out)).at_ hlt
        have e0 := f 0 (by omega)
        have e1 := f 1 (by omega)
        have HD := Lib.hid (drop_arr_K ats j hlt)
        generalize ats[j]! = x at e0 e1 HD
        simp only [Nat.add_zero, encA_I, List.getElem!_cons_zero, List.getElem!_cons_succ] at e0 e1
        clear f
        have HN : Hid (ats.toList.map (·.2) = (l ++ [x.2]) ++ (ats.toList.drop (j + 1)).map (·.2)) := by show _ = _; rw [HE.out, HD.out]; simp
        have hz := HB.out.size
        go_wp2_with (at_builtin; refine wpList_append_own _ rfl _ _ 26 rfl w1.heap.size 3 i0 (.int .i64 0) 1 8 Tryz.underlying26 hi0 hz0 hz1 hz2 rfl (by decide) _ _ _ rfl ((hown.alloc _).alloc _) ⟨wr.heap.size + 1, 0, none⟩ 1 1 [.int .i64 x.2] rfl rfl (fun j u hu => by
          match j, hu with
          | 0, hu => simp at hu; subst hu; rw [show (⟨wr.heap.size + 1, 0, none⟩ : Addr).add 0 = ⟨(wr.alloc (.cells #[.int .i64 x.1, .int .i64 x.2] 29)).heap.size, 0, none⟩ by simp [Addr.add]]; exact cell_new _ _ _ 0
          | j + 1, hu => simp at hu) (by simp [Value.oneCell']) (by unfold maxLen; omega) (by omega) (by simp; omega) ?_; intro v' w5 hown' hgrow _)
        go_roundw
        case rel => exact ⟨j + 1, l ++ [x.2], by go_num, by omega, by simp; omega, HN.out, (by simpa using hown'), own_app2 HB.out hz hown hgrow⟩
        case measure => simp [intOf]; omega
      · have hlt' : decide ((j : Int) < (ats.size : Int)) = false := decide_eq_false (by omega)
        have HL : Hid (ats.toList.map (·.2) = l) := by
          show _ = _
          rw [HE.out, List.drop_of_length_le (by simp; omega)]; simp
        have HOp : Hid (∀ s : List Int, s.Pairwise (· < ·) → (∀ x, x ∈ s ↔ x ∈ l) → OpenR ⟨base, rs, ats⟩ s.toArray) := fun s p1 p2 => ⟨by simpa using p1, fun x => by rw [HCk.out]; simp only [true_and]; rw [HL.out]; simpa using p2 x⟩
        rcases l with _ | ⟨y, l⟩
        · obtain ⟨Av, cv, rfl, _⟩ := rdI_of_owns hown
          have HN : Hid (OpenR ⟨base, rs, ats⟩ (#[] : Array Int)) := HOp.out [] (by simp) (fun x => Iff.rfl)
          clear hown HOp HL HE
          go_wp2_with fail
          refine (Tryz.slices_Sort_int_none Av cv wr).mono ?_
          rintro e w2 ⟨rfl, rfl⟩
          go_wp2_with fail
          refine (Tryz.slices_Compact_int_empty Av cv w2).mono ?_
          rintro e w3 ⟨rfl, rfl⟩
          go_wp2
          go_ret
          exact ⟨⟨Av, #[], cv, rfl, HN.out, RdI_R.none_, Nat.zero_le _, Or.inl rfl⟩, belStep HB1.out HB.out⟩
        · obtain ⟨L, hL⟩ : ∃ L, y :: l = L := ⟨_, rfl⟩
          have hL0 : 0 < L.length := by rw [← hL]; simp
          have hl2 : L.length ≤ 100000 := by rw [← hL]; omega
          have hl3 : L.length ≤ ats.size := by rw [← hL]; omega
          rw [hL] at hown HOp HL
          clear hL HE
          have hn : ∀ v, wr.ownsRow w1.heap.size 3 1 v L.length (L.map (Value.int .i64)) → v ≠ .slice none 0 0 := fun v h e => by
            subst e
            obtain ⟨_, ⟨_, h0⟩ | ⟨g, cap, cur, hv, _⟩⟩ := h
            · omega
            · cases hv
          obtain ⟨g, cap, rfl, hnc, hgB, hgl, hH⟩ := own_ints hown (hn _ hown)
          have hz := HB.out.size
          have HSo := Lib.hid (Tryz.slices_Sort_int g 0 cap L wr hH hgl (by omega))
          have HH := Lib.hid hH
          obtain ⟨cs1, cs2⟩ := compact_sorted L
          have hls : (L.mergeSort fun x y => decide (x ≤ y)).length = L.length := List.length_mergeSort ..
          obtain ⟨srt, hsrt⟩ : ∃ srt, (L.mergeSort fun x y => decide (x ≤ y)) = srt := ⟨_, rfl⟩
          rw [hsrt] at HSo cs1 cs2 hls
          have HN : Hid (OpenR ⟨base, rs, ats⟩ (compact srt).toArray) := HOp.out _ cs1 cs2
          have HLs := Lib.hid hls
          clear hown hn hH HOp HL cs1 cs2 hls hsrt
          go_wp2_with fail
          refine HSo.out.mono ?_
          rintro e w2 ⟨rfl, n, os, hw2⟩
          have hb2 : Below w1.heap.size w1 w2 := by rw [hw2]; exact below_putRow HB.out hz hgB n _ os
          have hg2 : g < w2.heap.size := by
            rw [hw2]
            show g < ((putRow (Value.int .i64) (Sort.ahead wr n) g 0 srt.toArray).heap ++ os).size
            rw [Array.size_append, size_putRow]
            show g < wr.heap.size + _
            omega
          have hH2 : Holds (Value.int .i64) w2 g 0 srt.toArray := by
            rw [hw2]
            refine holds_grow _ _ _ _ _ _ (by rw [size_putRow]; exact hgl) (holds_putRow _ (Sort.ahead wr n) g 0 L.toArray srt.toArray (holds_ahead _ _ _ _ _ _ HH.out) (by simpa using HLs.out))
          have hcm := Tryz.slices_Compact_int g 0 cap srt w2 hH2 (by have := HLs.out; omega) (by have := HLs.out; omega)
          rw [HLs.out] at hcm
          have HCm := Lib.hid hcm
          have HH2 := Lib.hid hH2
          have HB2 := Lib.hid hb2
          clear hw2 hH2 hcm hb2
          go_wp2_with fail
          refine HCm.out.mono ?_
          rintro e w3 ⟨rfl, q, hw3⟩
          have hlen := compact_length_le srt
          have HR3 : Hid (RdI_R w3.heap.size w3 (some ⟨g, 0, none⟩) (compact srt).toArray ∧ Below w1.heap.size w1 w3 ∧ g < w3.heap.size ∧ Holds (Value.int .i64) w3 g 0 (compact srt).toArray) := by
            have e1 : (compact srt ++ List.replicate (L.length - (compact srt).length) 0).length = srt.toArray.size := by simp [HLs.out]; have := HLs.out; omega
            rw [hw3]
            refine ⟨rdI_put (holds_ahead _ _ _ _ _ _ HH2.out) e1 hg2, ?_, by rw [size_putRow]; exact hg2, holds_pre (holds_ahead _ _ _ _ _ _ HH2.out) e1⟩
            have := below_putRow HB2.out HB2.out.size hgB q (compact srt ++ List.replicate (L.length - (compact srt).length) 0).toArray (g := g) (off := 0) #[]
            rwa [grow_empty] at this
          clear hw3
          go_wp2
          go_ret
          have hbz := HB1.out.size
          refine ⟨⟨some ⟨g, 0, none⟩, (compact srt).toArray, cap, ?_, HN.out, HR3.out.1, ?_, Or.inr ⟨g, rfl, by omega, HR3.out.2.2.1, HR3.out.2.2.2, ?_⟩⟩, belStep HB1.out HR3.out.2.1⟩
          · simp
          · have := HLs.out
            show (compact srt).toArray.size ≤ ats.size
            simp
            omega
          · have := HLs.out
            simp
            omega
end Go.Proofs.YtnmojicfmcbgmaaGreat
namespace Go.Proofs.YtnmojicfmcbgmaaGreat
open Go.RowKit Go.Sort Go.Lib
set_option maxRecDepth 100000
set_option maxHeartbeats 4000000 in
theorem rSame16_any (v1 v2 : Value) (k j : KN) (w : World) (h1 : KnV w v1 k) (h2 : KnV w v2 j) (s1 : k.rs.size ≤ 100000) (s2 : k.ats.size ≤ 100000) (s3 : j.rs.size ≤ 100000) (s4 : j.ats.size ≤ 100000) :
    Calls Tryz.prog 99 #[v1, v2] w fun e w' => e = .returned (.bool (sameK k j)) ∧ Below w.heap.size w w' := by
  obtain ⟨b1, r1, a1⟩ := k
  obtain ⟨b2, r2, a2⟩ := j
  obtain ⟨A1, c1, A2, c2, rfl, p1, p2, _, _⟩ := h1
  obtain ⟨A3, c3, A4, c4, rfl, p3, p4, _, _⟩ := h2
  have HR : Hid (∀ W, Below w.heap.size w W → Calls Tryz.prog 100 #[.slice A1 r1.size c1, .slice A3 r2.size c3] W fun e w' => e = .returned (.bool (decide (r1 = r2))) ∧ Below W.heap.size W w') := fun W hb => r4Same_b A1 A3 c1 c3 r1 r2 W ((p1.below hb).mono hb.size) ((p3.below hb).mono hb.size) (by simp only at s3; omega)
  have HA : Hid (∀ W, Below w.heap.size w W → Calls Tryz.prog 52 #[.slice A2 a1.size c2, .slice A4 a2.size c4] W fun e w' => e = .returned (.bool (decide (a1 = a2))) ∧ Below W.heap.size W w') := fun W hb => (SameAtts_any_I A2 A4 c2 c4 a1 a2 w.heap.size W (p2.below hb) (p4.below hb) (by simp only at s2; omega) (by simp only at s4; omega)).mono fun _ _ ⟨he, n, hw⟩ => ⟨he, by rw [hw]; exact belDrewN (Below.refl _ _) n⟩
  have HT := Lib.hid (two_blk w (.cells #[.int .i64 b1, .slice A1 r1.size c1, .slice A2 a1.size c2] 53) (.cells #[.int .i64 b2, .slice A3 r2.size c3, .slice A4 a2.size c4] 53))
  have HS : Hid (sameK ⟨b1, r1, a1⟩ ⟨b2, r2, a2⟩ = ((b1 == b2) && decide (r1 = r2) && decide (a1 = a2))) := Lib.hid rfl
  clear p1 p2 p3 p4 s1 s2 s3 s4
  generalize decide (r1 = r2) = er at HR HS
  generalize decide (a1 = a2) = ea at HA HS
  generalize sameK ⟨b1, r1, a1⟩ ⟨b2, r2, a2⟩ = sk at HS
  cases hb : (b1 == b2)
  · rw [hb] at HS
    have HF : Hid (sk = false) := HS.out
    clear HS HR HA
    go_enter Tryz.func99, Tryz.ntmps99
    go_wp2
    go_ret
    exact ⟨ret_bool HF.out.symm, belAlloc (bel1 w _) _⟩
  · rw [hb, Bool.true_and] at HS
    cases er
    · have HF : Hid (sk = false) := HS.out
      clear HS HA
      go_enter Tryz.func99, Tryz.ntmps99
      go_wp2_with fail
      refine (HR.out _ (belAlloc (bel1 w _) _)).mono ?_
      rintro e w1 ⟨rfl, hb1⟩
      have HB1 := Lib.hid (belStep (belAlloc (bel1 w _) _) hb1)
      clear hb1
      go_wp2
      go_ret
      exact ⟨ret_bool HF.out.symm, HB1.out⟩
    · have HF : Hid (sk = ea) := HS.out
      clear HS
      go_enter Tryz.func99, Tryz.ntmps99
      go_wp2_with fail
      refine (HR.out _ (belAlloc (bel1 w _) _)).mono ?_
      rintro e w1 ⟨rfl, hb1⟩
      obtain ⟨⟨u0, u1, u2⟩, _⟩ := blk3 (blk_bel HT.out.1 hb1)
      obtain ⟨⟨k0, k1, k2⟩, _⟩ := blk3 (blk_bel HT.out.2 hb1)
      have HB1 := Lib.hid (belStep (belAlloc (bel1 w _) _) hb1)
      have HAA := Lib.hid (HA.out w1 HB1.out)
      clear hb1 HA HR
      go_wp2_with fail
      refine HAA.out.mono ?_
      rintro e w2 ⟨rfl, hb2⟩
      go_wp2
      go_ret
      exact ⟨ret_bool HF.out.symm, belStep HB1.out hb2⟩

/-! what the probes are held against -/
theorem srtA_lit {d : Array (Int × Int)} (l : List (Int × Int)) (h : d = l.toArray) (hp : l.Pairwise (fun x y => x.1 < y.1)) : srtA d = l.toArray := by
  subst h
  exact srtA_self (by simpa using hp)
theorem flat_of {enc : Int × Int → List Value} (hk : ∀ x, (enc x).length = 2) {d : Array (Int × Int)} {cs : Array Value} (h : cs = (d.toList.flatMap enc).toArray) : cs = flatK enc 2 d := by
  apply Array.toList_inj.1
  rw [flatK_flatMap hk, h]
theorem RdK.lit_K {enc : Int × Int → List Value} (hk : ∀ x, (enc x).length = 2) (w : World) (d : Array (Int × Int)) (cs : Array Value) (e : TypeId) (h : cs = (d.toList.flatMap enc).toArray) : RdK enc 2 (w.alloc (.cells cs e)).heap.size (w.alloc (.cells cs e)) (some ⟨w.heap.size, 0, none⟩) d := (RdK.new w enc 2 d e cs (flat_of hk h)).mono (by simp)
theorem RdI_R.lit_K (w : World) (d : Array Int) (cs : Array Value) (e : TypeId) (h : cs = d.map encI_R) : RdI_R (w.alloc (.cells cs e)).heap.size (w.alloc (.cells cs e)) (some ⟨w.heap.size, 0, none⟩) d := (RdI_R.new w d e cs h).mono (by simp)
end Go.Proofs.YtnmojicfmcbgmaaGreat
namespace Go.Proofs.YtnmojicfmcbgmaaGreat
open Go.RowKit Go.Sort Go.Lib
set_option maxRecDepth 100000
set_option maxHeartbeats 32000000 in
theorem rChk16_let (base : Int) (rs ats : Array (Int × Int)) (A1 : Option Addr) (c1 : Nat) (A2 : Option Addr) (c2 : Nat) (w : World) (h1 : RdK encR 2 w.heap.size w A1 rs) (h2 : RdK encA_I 2 w.heap.size w A2 ats) :
    Calls Tryz.prog 37 #[.agg #[.int .i64 base, .slice A1 rs.size c1, .slice A2 ats.size c2]] w fun e w' => e = .returned (.int .i64 (chkE ⟨base, rs, ats⟩)) ∧ Below w.heap.size w w' := by
  have HC : Hid (∀ W, Below w.heap.size w W → Calls Tryz.prog 38 #[.slice A1 rs.size c1] W fun e w' => e = .returned (.int .i64 (setE_R rs)) ∧ Below W.heap.size W w') := fun W hb => (r4Check_any A1 c1 rs _ W ((h1.below hb).mono hb.size)).mono fun _ _ ⟨he, q, hw⟩ => ⟨he, by rw [hw]; exact belDrewN (Below.refl _ _) q⟩
  have HRi : Hid (ats.size ≤ 400 → ∀ W, Below w.heap.size w W → Calls Tryz.prog 89 #[.slice A2 ats.size c2, .int .i64 base, .int .i64 1000000] W fun e w' => e = .returned (.bool (riseL 1000000 base ats.toList)) ∧ Below W.heap.size W w') := fun hs W hb => rRise_any A2 c2 ats base 1000000 W ((h2.below hb).mono hb.size) (by omega)
  have HR1 := Lib.hid h1
  have HR2 := Lib.hid h2
  have hrw : ∀ b : Bool, chkB ⟨base, rs, ats⟩ = b → chkE ⟨base, rs, ats⟩ = if b = true then 0 else 2 := fun b hb => by unfold chkE; rw [hb]
  clear h1 h2
  by_cases g1 : base < 0 ∨ 1000000 < base ∨ setE_R rs ≠ 0 ∨ 400 < ats.size ∨ riseL 1000000 base ats.toList = false
  · have HE : Hid (chkE ⟨base, rs, ats⟩ = 2) := by
      show _ = _
      rw [hrw false]
      · rfl
      · rw [Bool.eq_false_iff]
        intro h
        have h' := chk_iff.1 h
        have a1 := h'.b0
        have a2 := h'.b1
        have a3 := h'.rs
        have a4 := h'.sz
        have a5 := h'.up
        simp only at a1 a2 a3 a4 a5
        rcases g1 with g | g | g | g | g
        · omega
        · omega
        · exact g a3
        · omega
        · rw [a5] at g; cases g
    clear hrw
    by_cases q1 : base < 0
    · have q1' : decide (base < 0) = true := by simpa using q1
      clear g1 q1
      go_enter Tryz.func37, Tryz.ntmps37
      go_wp2
      go_ret
      exact ⟨ret_int HE.out.symm, bel1 w _⟩
    · have q1' : decide (base < 0) = false := by simpa using q1
      by_cases q2 : 1000000 < base
      · have q2' : decide (1000000 < base) = true := by simpa using q2
        clear g1 q1 q2
        go_enter Tryz.func37, Tryz.ntmps37
        go_wp2
        go_ret
        exact ⟨ret_int HE.out.symm, bel1 w _⟩
      · have q2' : decide (1000000 < base) = false := by simpa using q2
        have HQ : Hid (setE_R rs ≠ 0 ∨ 400 < ats.size ∨ riseL 1000000 base ats.toList = false) := by
          rcases g1 with g | g | g
          · exact absurd g q1
          · exact absurd g q2
          · exact g
        clear g1 q1 q2
        go_enter Tryz.func37, Tryz.ntmps37
        go_wp2_with fail
        refine (HC.out _ (bel1 w _)).mono ?_
        rintro e w1 ⟨rfl, hb1⟩
        obtain ⟨u0, u1, u2⟩ := box3 hb1
        have HB1 := Lib.hid (belStep (bel1 w _) hb1)
        have hrest := fun p : ats.size ≤ 400 => HRi.out p w1 HB1.out
        have HR := Lib.hid hrest
        clear hb1 hrest HC
        by_cases q3 : setE_R rs = 0
        · have q3' : (setE_R rs != 0) = false := by simpa using q3
          by_cases q4 : 400 < ats.size
          · have q4' : decide ((400 : Int) < (ats.size : Int)) = true := by simp; omega
            clear q3 q4
            go_wp2
            go_ret
            exact ⟨ret_int HE.out.symm, HB1.out⟩
          · have q4' : decide ((400 : Int) < (ats.size : Int)) = false := by simp; omega
            have q5 : riseL 1000000 base ats.toList = false := by
              rcases HQ.out with g | g | g
              · exact absurd q3 g
              · exact absurd g q4
              · exact g
            have HRR := Lib.hid (HR.out (by omega))
            rw [q5] at HRR
            clear q3 q5 HQ HR
            go_wp2_with fail
            refine HRR.out.mono ?_
            rintro e w2 ⟨rfl, hb2⟩
            go_wp2
            go_ret
            exact ⟨ret_int HE.out.symm, belStep HB1.out hb2⟩
        · have q3' : (setE_R rs != 0) = true := by simpa using q3
          clear q3 HQ
          go_wp2
          go_ret
          exact ⟨ret_int HE.out.symm, HB1.out⟩
  · obtain ⟨p1, p2, p3, p4, p5⟩ : 0 ≤ base ∧ base ≤ 1000000 ∧ setE_R rs = 0 ∧ ats.size ≤ 400 ∧ riseL 1000000 base ats.toList = true := by
      refine ⟨by omega, by omega, Classical.byContradiction fun h => g1 (by simp [h]), by omega, ?_⟩
      cases hr : riseL 1000000 base ats.toList
      · exact absurd (by simp [hr]) g1
      · rfl
    have hall : chkB ⟨base, rs, ats⟩ = (decide (0 < rs.size → base + 1 < rs[0]!.1) && !(ats.toList.any fun a => hasB_R rs a.1)) := by
      have e : (fun a : Int × Int => hasB_R rs a.1) = fun a => inR rs a.1 := funext fun a => has_in p3 a.1
      rw [e]
      unfold chkB
      simp only [p3, p5, p4]
      simp [p1, p2]
    have HA := Lib.hid hall
    have q1 : decide (base < 0) = false := by simpa using p1
    have q2 : decide (1000000 < base) = false := by simpa using p2
    have q3 : (setE_R rs != 0) = false := by simpa using p3
    have q4 : decide ((400 : Int) < (ats.size : Int)) = false := by simp; omega
    have HRi' := Lib.hid (HRi.out p4)
    rw [p5] at HRi'
    have HW := Lib.hid hrw
    have HP4 := Lib.hid p4
    have hrs := (setE_all p3).1
    have hatN : ∀ W, Below w.heap.size w W → 0 < rs.size → ∃ b off, A1 = some ⟨b, off, none⟩ ∧ W.cell? ⟨b, off, none⟩ = some (.int .i64 rs[0]!.1) := fun W hb h0 => by
      obtain ⟨b, off, e, _, f⟩ := (HR1.out.below hb).at_ (i := 0) h0
      refine ⟨b, off, e, ?_⟩
      have := f 0 (by omega)
      simpa [encR] using this
    have HN := Lib.hid hatN
    have HHs : Hid (∀ x W, Below w.heap.size w W → Calls Tryz.prog 40 #[.slice A1 rs.size c1, .int .i64 x] W fun e w' => e = .returned (.bool (hasB_R rs x)) ∧ Below W.heap.size W w') := fun x W hb => r4Has_any A1 c1 rs x _ W ((HR1.out.below hb).mono hb.size)
    have hlo1 : 0 < rs.size → 1 ≤ rs[0]!.1 ∧ rs[0]!.1 ≤ 1000000 := fun h0 => by
      have := (NL.of_set p3).1 rs[0]! (by rw [getElem!_pos rs 0 h0]; simp)
      omega
    have HL1 := Lib.hid hlo1
    clear g1 p3 p5 hall hrw hatN hlo1 HRi
    go_enter Tryz.func37, Tryz.ntmps37
    go_wp2_with fail
    refine (HC.out _ (bel1 w _)).mono ?_
    rintro e w1 ⟨rfl, hb1⟩
    obtain ⟨u0, u1, u2⟩ := box3 hb1
    have HB1 := Lib.hid (belStep (bel1 w _) hb1)
    have HRR := Lib.hid (HRi'.out w1 HB1.out)
    have hlt1 : w.heap.size < w1.heap.size := by have := hb1.size; simp at this; omega
    clear hb1 HC HRi'
    go_wp2_with fail
    refine HRR.out.mono ?_
    rintro e w2 ⟨rfl, hb2⟩
    have v0 := (hb2.cell (p := ⟨w.heap.size, 0, none⟩) hlt1).trans u0
    have v1 := (hb2.cell (p := ⟨w.heap.size, 1, none⟩) hlt1).trans u1
    have v2 := (hb2.cell (p := ⟨w.heap.size, 2, none⟩) hlt1).trans u2
    have hlt2 : w.heap.size < w2.heap.size := Nat.lt_of_lt_of_le hlt1 hb2.size
    have HB2 := Lib.hid (belStep HB1.out hb2)
    clear hb2 u0 u1 u2 HRR hlt1
    by_cases q5 : 0 < rs.size
    · obtain ⟨bq, oq, rfl, hcell⟩ := HN.out w2 HB2.out q5
      have q5' : decide ((0 : Int) < (rs.size : Int)) = true := by simp; omega
      obtain ⟨l1, l2⟩ := HL1.out q5
      obtain ⟨lo, hlo⟩ : ∃ lo, rs[0]!.1 = lo := ⟨_, rfl⟩
      rw [hlo] at hcell l1 l2
      have HLo := Lib.hid hlo
      clear hlo HN HL1
      by_cases q6 : lo ≤ base + 1
      · have q6' : decide (lo - 1 ≤ base) = true := by simp; omega
        have HE : Hid (chkE ⟨base, rs, ats⟩ = 2) := by
          show _ = _
          rw [HW.out false]
          · rfl
          · rw [HA.out, Bool.and_eq_false_iff]
            left
            rw [decide_eq_false_iff_not]
            intro h
            have := h q5
            rw [HLo.out] at this
            omega
        clear q6
        go_wp2
        go_quiet (fail)
        go_wp2
        go_ret
        exact ⟨ret_int HE.out.symm, belDrewN HB2.out _⟩
      · have q6' : decide (lo - 1 ≤ base) = false := by simp; omega
        have hone : decide (0 < rs.size → base + 1 < rs[0]!.1) = true := by
          rw [decide_eq_true_iff]
          intro _
          rw [HLo.out]
          omega
        rw [hone, Bool.true_and] at HA
        clear q6 hone
        go_wp2
        go_quiet (fail)
        obtain ⟨w3, HW3⟩ : ∃ W, Hid (W = w2.drewN nq) := ⟨_, rfl⟩
        have HB3 : Hid (Below w.heap.size w w3) := by rw [HW3.out]; exact belDrewN HB2.out _
        have HV : Hid (w.heap.size < w3.heap.size ∧ w3.cell? ⟨w.heap.size, 1, none⟩ = some (.slice (some ⟨bq, oq, none⟩) rs.size c1) ∧ w3.cell? ⟨w.heap.size, 2, none⟩ = some (.slice A2 ats.size c2)) := by rw [HW3.out]; exact ⟨hlt2, v1, v2⟩
        clear v0 v1 v2 hlt2
        go_wp2
        go_loopw [3] (fun iv wr => ∃ j : Nat, iv = .int .i64 (j : Int) ∧ j ≤ ats.size ∧ (∀ i, i < j → hasB_R rs ats[i]!.1 = false) ∧ Below w3.heap.size w3 wr) (fun iv _ => ats.size - (intOf iv).toNat)
        case atStart => exact ⟨0, rfl, Nat.zero_le _, fun i hi => absurd hi (by omega), by rw [HW3.out]; exact Below.refl _ _⟩
        case round =>
          obtain ⟨j, rfl, hj, hJ, hB⟩ := hrel
          have HJ := Lib.hid hJ
          have HB := Lib.hid hB
          have x1 := (hB.cell (p := ⟨w.heap.size, 1, none⟩) HV.out.1).trans HV.out.2.1
          have x2 := (hB.cell (p := ⟨w.heap.size, 2, none⟩) HV.out.1).trans HV.out.2.2
          have hl3 : w.heap.size < wr.heap.size := Nat.lt_of_lt_of_le HV.out.1 hB.size
          clear hJ hB
          by_cases hlt : j < ats.size
          · have jz : (j : Int) < (ats.size : Int) := by omega
            obtain ⟨b, off, rfl, hbl, f⟩ := (HR2.out.below (belStep HB3.out HB.out)).at_ hlt
            have e0 := f 0 (by omega)
            have hbw : b < wr.heap.size := Nat.lt_of_lt_of_le hbl (belStep HB3.out HB.out).size
            obtain ⟨x, hx⟩ : ∃ x, ats[j]!.1 = x := ⟨_, rfl⟩
            have HX := Lib.hid hx
            simp only [Nat.add_zero, encA_I, List.getElem!_cons_zero, hx] at e0
            clear f hx
            have p1 := fun p : ExtW wr => p.cell (a := ⟨w.heap.size, 1, none⟩) hl3 x1
            have p2 := fun p : ExtW wr => p.cell (a := ⟨w.heap.size, 2, none⟩) hl3 x2
            have p3 := fun p : ExtW wr => p.cell (a := ⟨b, off + j * 2, none⟩) hbw e0
            have hhx : ∀ p : ExtW wr, Calls Tryz.prog 40 #[.slice (some ⟨bq, oq, none⟩) rs.size c1, .int .i64 x] p.to fun e w' => e = .returned (.bool (hasB_R rs x)) ∧ Below p.to.heap.size p.to w' := fun p => HHs.out x p.to (belStep HB3.out (belStep HB.out p.h))
            obtain ⟨t, ht⟩ : ∃ t, hasB_R rs x = t := ⟨_, rfl⟩
            rw [ht] at hhx
            have HT := Lib.hid ht
            have HC := Lib.hid hhx
            clear ht hhx
            cases t
            · go_wp2_with fail
              refine wp_region_ext (by kernel_rfl) (by kernel_rfl) ?_
              repeat (first | go_big_quiet_step ((go_at_call 40; exact Calls.ext_of (HC.out _))) | quiet_step ((go_at_call 40; exact Calls.ext_of (HC.out _))))
              refine wpQuiet_nil ?_
              intro w' hw'
              obtain ⟨⟨W, hbW⟩, hw''⟩ := hw'
              have hw3 : w' = W := hw''
              subst hw3
              have HBW := Lib.hid hbW
              clear hbW hw'' p1 p2 p3
              go_wp2
              go_roundw
              case rel => exact ⟨j + 1, by go_num, by omega, (fun i hi => by
                rcases Nat.lt_or_ge i j with h' | h'
                · exact HJ.out i h'
                · obtain rfl : i = j := by omega
                  rw [HX.out]; exact HT.out), belStep HB.out HBW.out⟩
              case measure => simp [intOf]; omega
            · have HE : Hid (chkE ⟨base, rs, ats⟩ = 2) := by
                show _ = _
                rw [HW.out false]
                · rfl
                · rw [HA.out, Bool.not_eq_false', List.any_eq_true]
                  exact ⟨ats[j]!, by rw [getElem!_pos ats j hlt]; simp, by rw [HX.out]; exact HT.out⟩
              go_wp2_with fail
              refine wp_region_ext (by kernel_rfl) (by kernel_rfl) ?_
              repeat (first | go_big_quiet_step ((go_at_call 40; exact Calls.ext_of (HC.out _))) | quiet_step ((go_at_call 40; exact Calls.ext_of (HC.out _))))
              refine wpQuiet_nil ?_
              intro w' hw'
              obtain ⟨⟨W, hbW⟩, hw''⟩ := hw'
              have hw3 : w' = W := hw''
              subst hw3
              have HBW := Lib.hid hbW
              clear hbW hw'' p1 p2 p3
              go_wp2
              go_ret
              exact ⟨ret_int HE.out.symm, belStep HB3.out (belStep HB.out HBW.out)⟩
          · have hlt' : decide ((j : Int) < (ats.size : Int)) = false := decide_eq_false (by omega)
            have HE : Hid (chkE ⟨base, rs, ats⟩ = 0) := by
              show _ = _
              rw [HW.out true]
              · rfl
              · rw [HA.out, Bool.not_eq_true', List.any_eq_false]
                intro x hx
                obtain ⟨i, hi, rfl⟩ := List.mem_iff_getElem.1 hx
                have := HJ.out i (by simp at hi; omega)
                rw [getElem!_pos ats i (by simpa using hi)] at this
                simpa using this
            go_wp2
            go_ret
            exact ⟨ret_int HE.out.symm, belStep HB3.out HB.out⟩
    · have q5' : decide ((0 : Int) < (rs.size : Int)) = false := decide_eq_false (by omega)
      have q5n : decide (0 < rs.size) = false := decide_eq_false q5
      have hone : decide (0 < rs.size → base + 1 < rs[0]!.1) = true := by
        rw [decide_eq_true_iff]
        intro h
        exact absurd h q5
      rw [hone, Bool.true_and] at HA
      clear q5 hone HN HL1
      go_wp2
      go_quiet (fail)
      obtain ⟨w3, HW3⟩ : ∃ W, Hid (W = w2.drewN nq) := ⟨_, rfl⟩
      have HB3 : Hid (Below w.heap.size w w3) := by rw [HW3.out]; exact belDrewN HB2.out _
      have HV : Hid (w.heap.size < w3.heap.size ∧ w3.cell? ⟨w.heap.size, 1, none⟩ = some (.slice A1 rs.size c1) ∧ w3.cell? ⟨w.heap.size, 2, none⟩ = some (.slice A2 ats.size c2)) := by rw [HW3.out]; exact ⟨hlt2, v1, v2⟩
      clear v0 v1 v2 hlt2
      go_wp2
      go_loopw [3] (fun iv wr => ∃ j : Nat, iv = .int .i64 (j : Int) ∧ j ≤ ats.size ∧ (∀ i, i < j → hasB_R rs ats[i]!.1 = false) ∧ Below w3.heap.size w3 wr) (fun iv _ => ats.size - (intOf iv).toNat)
      case atStart => exact ⟨0, rfl, Nat.zero_le _, fun i hi => absurd hi (by omega), by rw [HW3.out]; exact Below.refl _ _⟩
      case round =>
        obtain ⟨j, rfl, hj, hJ, hB⟩ := hrel
        have HJ := Lib.hid hJ
        have HB := Lib.hid hB
        have x1 := (hB.cell (p := ⟨w.heap.size, 1, none⟩) HV.out.1).trans HV.out.2.1
        have x2 := (hB.cell (p := ⟨w.heap.size, 2, none⟩) HV.out.1).trans HV.out.2.2
        have hl3 : w.heap.size < wr.heap.size := Nat.lt_of_lt_of_le HV.out.1 hB.size
        clear hJ hB
        by_cases hlt : j < ats.size
        · have jz : (j : Int) < (ats.size : Int) := by omega
          obtain ⟨b, off, rfl, hbl, f⟩ := (HR2.out.below (belStep HB3.out HB.out)).at_ hlt
          have e0 := f 0 (by omega)
          have hbw : b < wr.heap.size := Nat.lt_of_lt_of_le hbl (belStep HB3.out HB.out).size
          obtain ⟨x, hx⟩ : ∃ x, ats[j]!.1 = x := ⟨_, rfl⟩
          have HX := Lib.hid hx
          simp only [Nat.add_zero, encA_I, List.getElem!_cons_zero, hx] at e0
          clear f hx
          have p1 := fun p : ExtW wr => p.cell (a := ⟨w.heap.size, 1, none⟩) hl3 x1
          have p2 := fun p : ExtW wr => p.cell (a := ⟨w.heap.size, 2, none⟩) hl3 x2
          have p3 := fun p : ExtW wr => p.cell (a := ⟨b, off + j * 2, none⟩) hbw e0
          have hhx : ∀ p : ExtW wr, Calls Tryz.prog 40 #[.slice A1 rs.size c1, .int .i64 x] p.to fun e w' => e = .returned (.bool (hasB_R rs x)) ∧ Below p.to.heap.size p.to w' := fun p => HHs.out x p.to (belStep HB3.out (belStep HB.out p.h))
          obtain ⟨t, ht⟩ : ∃ t, hasB_R rs x = t := ⟨_, rfl⟩
          rw [ht] at hhx
          have HT := Lib.hid ht
          have HC := Lib.hid hhx
          clear ht hhx
          cases t
          · go_wp2_with fail
            refine wp_region_ext (by kernel_rfl) (by kernel_rfl) ?_
            repeat (first | go_big_quiet_step ((go_at_call 40; exact Calls.ext_of (HC.out _))) | quiet_step ((go_at_call 40; exact Calls.ext_of (HC.out _))))
            refine wpQuiet_nil ?_
            intro w' hw'
            obtain ⟨⟨W, hbW⟩, hw''⟩ := hw'
            have hw3 : w' = W := hw''
            subst hw3
            have HBW := Lib.hid hbW
            clear hbW hw'' p1 p2 p3
            go_wp2
            go_roundw
            case rel => exact ⟨j + 1, by go_num, by omega, (fun i hi => by
              rcases Nat.lt_or_ge i j with h' | h'
              · exact HJ.out i h'
              · obtain rfl : i = j := by omega
                rw [HX.out]; exact HT.out), belStep HB.out HBW.out⟩
            case measure => simp [intOf]; omega
          · have HE : Hid (chkE ⟨base, rs, ats⟩ = 2) := by
              show _ = _
              rw [HW.out false]
              · rfl
              · rw [HA.out, Bool.not_eq_false', List.any_eq_true]
                exact ⟨ats[j]!, by rw [getElem!_pos ats j hlt]; simp, by rw [HX.out]; exact HT.out⟩
            go_wp2_with fail
            refine wp_region_ext (by kernel_rfl) (by kernel_rfl) ?_
            repeat (first | go_big_quiet_step ((go_at_call 40; exact Calls.ext_of (HC.out _))) | quiet_step ((go_at_call 40; exact Calls.ext_of (HC.out _))))
            refine wpQuiet_nil ?_
            intro w' hw'
            obtain ⟨⟨W, hbW⟩, hw''⟩ := hw'
            have hw3 : w' = W := hw''
            subst hw3
            have HBW := Lib.hid hbW
            clear hbW hw'' p1 p2 p3
            go_wp2
            go_ret
            exact ⟨ret_int HE.out.symm, belStep HB3.out (belStep HB.out HBW.out)⟩
        · have hlt' : decide ((j : Int) < (ats.size : Int)) = false := decide_eq_false (by omega)
          have HE : Hid (chkE ⟨base, rs, ats⟩ = 0) := by
            show _ = _
            rw [HW.out true]
            · rfl
            · rw [HA.out, Bool.not_eq_true', List.any_eq_false]
              intro x hx
              obtain ⟨i, hi, rfl⟩ := List.mem_iff_getElem.1 hx
              have := HJ.out i (by simp at hi; omega)
              rw [getElem!_pos ats i (by simpa using hi)] at this
              simpa using this
          go_wp2
          go_ret
          exact ⟨ret_int HE.out.symm, belStep HB3.out HB.out⟩
theorem rChk16_any (v : Value) (k : KN) (w : World) (h : KnV w v k) : Calls Tryz.prog 37 #[v] w fun e w' => e = .returned (.int .i64 (chkE k)) ∧ Below w.heap.size w w' := by
  obtain ⟨A1, c1, A2, c2, rfl, h1, h2, _, _⟩ := h
  exact rChk16_let k.base k.rs k.ats A1 c1 A2 c2 w h1 h2
end Go.Proofs.YtnmojicfmcbgmaaGreat
namespace Go.Proofs.YtnmojicfmcbgmaaGreat
open Go.RowKit Go.Sort Go.Lib
/-- o is the ranges among the first m of d that are not empty, as they begin. -/
structure InsU (d : Array (Int × Int)) (m : Nat) (o : Array (Int × Int)) : Prop where
  up : o.toList.Pairwise fun x y => x.1 ≤ y.1
  mem : ∀ x, x ∈ o.toList ↔ x ∈ d.toList.take m ∧ x.1 ≤ x.2
  sz : o.size ≤ m
theorem InsU.nil (d : Array (Int × Int)) : InsU d 0 #[] := ⟨by simp, by simp, Nat.le_refl _⟩
theorem take_snoc_U {d : Array (Int × Int)} {m : Nat} (hm : m < d.size) : d.toList.take (m + 1) = d.toList.take m ++ [d[m]!] := by
  rw [List.take_add_one]
  simp [hm]
theorem InsU.skip {d o : Array (Int × Int)} {m : Nat} (h : InsU d m o) (hm : m < d.size) (hx : d[m]!.2 < d[m]!.1) : InsU d (m + 1) o := by
  refine ⟨h.up, fun x => ?_, by have := h.sz; omega⟩
  rw [h.mem, take_snoc_U hm, List.mem_append, List.mem_singleton]
  constructor
  · rintro ⟨h1, h2⟩
    exact ⟨Or.inl h1, h2⟩
  · rintro ⟨h1 | rfl, h2⟩
    · exact ⟨h1, h2⟩
    · omega
theorem InsU.put {d o : Array (Int × Int)} {m k : Nat} (h : InsU d m o) (hm : m < d.size) (hx : d[m]!.1 ≤ d[m]!.2) (hk : k ≤ o.size) (h1 : ∀ j, j < k → o[j]!.1 ≤ d[m]!.1) (h2 : k < o.size → d[m]!.1 < o[k]!.1) :
    InsU d (m + 1) (#[] ++ (o.toList.take k).toArray ++ #[d[m]!] ++ (o.toList.drop k).toArray) := by
  have e : (#[] ++ (o.toList.take k).toArray ++ #[d[m]!] ++ (o.toList.drop k).toArray).toList = o.toList.take k ++ d[m]! :: o.toList.drop k := by simp
  refine ⟨?_, fun x => ?_, ?_⟩
  · rw [e]
    have hp := h.up
    rw [← List.take_append_drop k o.toList] at hp
    obtain ⟨p1, p2, p3⟩ := List.pairwise_append.1 hp
    have t1 : ∀ y ∈ o.toList.take k, y.1 ≤ d[m]!.1 := fun y hy => by
      obtain ⟨j, hj, rfl⟩ := List.mem_take_iff_getElem.1 hy
      have hj' : j < o.size := by simp at hj; omega
      have := h1 j (by simp at hj; omega)
      rw [getElem!_pos o j hj'] at this
      simpa using this
    have t2 : ∀ y ∈ o.toList.drop k, d[m]!.1 ≤ y.1 := fun y hy => by
      rcases Nat.lt_or_ge k o.size with hlt | hge
      · have hk' : k < o.toList.length := by simpa using hlt
        rw [List.drop_eq_getElem_cons hk'] at hy p2
        have hk2 := h2 hlt
        rw [getElem!_pos o k (by omega)] at hk2
        rcases List.mem_cons.1 hy with rfl | hy
        · exact Int.le_of_lt (by simpa using hk2)
        · have a1 := (List.pairwise_cons.1 p2).1 y hy
          have a2 : d[m]!.1 < (o.toList[k]).1 := by simpa using hk2
          omega
      · rw [List.drop_of_length_le (by simpa using hge)] at hy
        cases hy
    refine List.pairwise_append.2 ⟨p1, List.pairwise_cons.2 ⟨t2, p2⟩, fun y hy z hz => ?_⟩
    rcases List.mem_cons.1 hz with rfl | hz
    · exact t1 y hy
    · exact p3 y hy z hz
  · rw [e, take_snoc_U hm, List.mem_append, List.mem_cons, List.mem_append, List.mem_singleton]
    have hs : x ∈ o.toList ↔ x ∈ o.toList.take k ∨ x ∈ o.toList.drop k := by rw [← List.mem_append, List.take_append_drop]
    have hm' := h.mem x
    rw [hs] at hm'
    constructor
    · rintro (a | rfl | a)
      · exact ⟨Or.inl (hm'.1 (Or.inl a)).1, (hm'.1 (Or.inl a)).2⟩
      · exact ⟨Or.inr rfl, hx⟩
      · exact ⟨Or.inl (hm'.1 (Or.inr a)).1, (hm'.1 (Or.inr a)).2⟩
    · rintro ⟨a | rfl, b⟩
      · rcases hm'.2 ⟨a, b⟩ with c | c
        · exact Or.inl c
        · exact Or.inr (Or.inr c)
      · exact Or.inr (Or.inl rfl)
  · have := h.sz
    simp
    omega
theorem InsU.fin {d o : Array (Int × Int)} (h : InsU d d.size o) (hv : ∀ x ∈ d.toList, x.1 ≤ x.2 → 1 ≤ x.1 ∧ x.2 ≤ 1000000) : IsN (inR d) (formF o.toList) ∧ (formF o.toList).size ≤ d.size := by
  have hm : ∀ x, x ∈ o.toList ↔ x ∈ d.toList ∧ x.1 ≤ x.2 := fun x => by
    have := h.mem x
    rwa [List.take_of_length_le (by simp)] at this
  have := foldF_ok o.toList #[] ⟨by simp, by simp⟩ (fun x hx => by
    obtain ⟨h1, h2⟩ := (hm x).1 hx
    have := hv x h1 h2
    omega) h.up (by simp)
  refine ⟨⟨this.1, fun n => ?_⟩, ?_⟩
  · show inR (List.foldl addF #[] o.toList) n = _
    rw [this.2 n]
    have e0 : inR #[] n = false := rfl
    rw [e0, Bool.false_or, Bool.eq_iff_iff, inL_iff, inR_iff]
    constructor
    · rintro ⟨x, hx, h1⟩
      exact ⟨x, ((hm x).1 hx).1, h1⟩
    · rintro ⟨x, hx, h1, h2⟩
      exact ⟨x, (hm x).2 ⟨hx, by omega⟩, h1, h2⟩
  · have h1 := foldF_size o.toList #[]
    have h2 := h.sz
    unfold formF
    simp at h1 ⊢
    omega
end Go.Proofs.YtnmojicfmcbgmaaGreat
