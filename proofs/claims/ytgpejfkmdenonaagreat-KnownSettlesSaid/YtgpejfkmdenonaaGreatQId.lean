/- Contracts of the plain functions of ident and of rubatoref02: what each returns, for every input. Contracts of the order of commands. The insertion sort of commands at times, by the bound method 'order.of'. The sort of at most twelve commands at times; two lists held against each other; 'awake' of the laws of layer 2. Two lists of commands held against each other. 'awake' of the laws of layer 2 returns true. -/
import Derived.Test.YtgpejfkmdenonaaGreatBase
import Derived.Test.YtgpejfkmdenonaaGreatRead
import Derived.Test.YtgpejfkmdenonaaGreatShelf
import Derived.Shelf.SlSortCmp.NoneTotal
import Derived.Deep.LoopGhost
import Derived.BigRegion
import Derived.Shelf.Abstract
import Derived.Laws.StructEq
import Derived.Deep.RegionHeld3
namespace Go.Proofs.YtgpejfkmdenonaaGreat
open Go.RowKit

def makeN (self seq : Int) : Int := if self < 1 ∨ 9 < self ∨ seq < 1 ∨ 99999 < seq then 0 else seq * 10 + self
def makeE (self seq : Int) : Int := if self < 1 ∨ 9 < self ∨ seq < 1 ∨ 99999 < seq then 2 else 0
def badId (id : Int) : Prop := id < 10 ∨ 999999 < id ∨ id % 10 = 0
def checkE (id : Int) : Int := if id < 10 ∨ 999999 < id ∨ id % 10 = 0 then 31 else 0
def selfN_I (id : Int) : Int := if id < 10 ∨ 999999 < id ∨ id % 10 = 0 then 0 else id % 10
def seqN_I (id : Int) : Int := if id < 10 ∨ 999999 < id ∨ id % 10 = 0 then 0 else id / 10

set_option maxHeartbeats 400000 in
theorem Check_any_I (id : Int) (w : World) :
    Calls Tryz.prog 51 #[.int .i64 id] w fun e w' => e = .returned (.int .i64 (checkE id)) ∧ w = w' := by
  go_enter Tryz.func51, Tryz.ntmps51
  go_wp2
  all_goals
    go_ret
    exact ⟨ret_int (by unfold checkE; split <;> simp_all <;> omega), rfl⟩
theorem checkE_bad {id : Int} (h : id < 10 ∨ 999999 < id ∨ id % 10 = 0) : checkE id = 31 := by unfold checkE; rw [if_pos h]
theorem checkE_ok {id : Int} (h : ¬ (id < 10 ∨ 999999 < id ∨ id % 10 = 0)) : checkE id = 0 := by unfold checkE; rw [if_neg h]
set_option maxHeartbeats 400000 in
theorem rSplit_any_I (id : Int) (w : World) :
    Calls Tryz.prog 63 #[.int .i64 id] w fun e w' => e = .returned (.tuple #[.int .i64 (selfN_I id), .int .i64 (seqN_I id)]) ∧ w = w' := by
  go_enter Tryz.func63, Tryz.ntmps63
  go_wp2
  all_goals
    go_ret2
    exact ⟨ret_int2 (by unfold selfN_I; split <;> simp_all <;> omega) (by unfold seqN_I; split <;> simp_all <;> omega), rfl⟩

/-! ballots -/
def mayN (n : Int) : Bool := decide (3 ≤ n ∧ n ≤ 9)
def ownS (b n : Int) : Int := (b - 1) % n + 1
theorem ownS_bd (b n : Int) (h : 3 ≤ n) : 1 ≤ ownS b n ∧ ownS b n ≤ n := by
  unfold ownS; have := Int.emod_nonneg (b - 1) (show n ≠ 0 by omega); have := Int.emod_lt_of_pos (b - 1) (show 0 < n by omega); omega
def owner (b n : Int) : Int := if n < 3 ∨ 9 < n ∨ b < 1 ∨ 1000000 < b then 0 else ownS b n
theorem mayN_yes {n : Int} (h : 3 ≤ n) (h' : n ≤ 9) : mayN n = true := by unfold mayN; simp; omega
theorem mayN_no {n : Int} (h : n < 3 ∨ 9 < n) : mayN n = false := by unfold mayN; simp; omega
def firstS (b n : Int) : Bool := decide (3 ≤ n ∧ n ≤ 9 ∧ 1 ≤ b ∧ b ≤ n)
/-! the next ballot -/
/-- The first ballot of a replica above m. -/
def cand (m self n : Int) : Int := m + 1 + (self - ownS (m + 1) n) % n
def big_I (b n : Int) : Int := if b < n then n else b
def nextN (b self n : Int) : Int := if n < 3 ∨ 9 < n ∨ self < 1 ∨ n < self ∨ b < 0 ∨ 1000000 < b then 0 else if 1000000 < cand (big_I b n) self n then 0 else cand (big_I b n) self n
def nextE (b self n : Int) : Int := if n < 3 ∨ 9 < n ∨ self < 1 ∨ n < self ∨ b < 0 ∨ 1000000 < b then 2 else if 1000000 < cand (big_I b n) self n then 8 else 0
end Go.Proofs.YtgpejfkmdenonaaGreat
namespace Go.Proofs.YtgpejfkmdenonaaGreat
open Go.RowKit Go.Sort

def orI (x y : Int) : Int := if x = 0 then y else x
set_option maxHeartbeats 400000 in
theorem Or2_any (x y : Int) (b cap : Nat) (w : World) (h0 : w.cell? ⟨b, 0, none⟩ = some (.int .i64 x)) (h1 : w.cell? ⟨b, 1, none⟩ = some (.int .i64 y)) :
    Calls Tryz.prog 91 #[.slice (some ⟨b, 0, none⟩) 2 cap] w fun e w' => e = .returned (.int .i64 (orI x y)) ∧ w = w' := by
  by_cases hx : x = 0
  · subst hx
    by_cases hy : y = 0
    · subst hy
      go_enter Tryz.func91, Tryz.ntmps91
      go_wp2
      refine wp_loop_rounds 3 ?_; rw [rounds_succ]
      go_wp2
      rw [rounds_succ]
      go_wp2
      rw [rounds_succ]
      go_wp2
      go_ret
      exact ⟨ret_int rfl, rfl⟩
    · have hb : (y != 0) = true := by simp [hy]
      have HY := Lib.hid hy; clear hy
      go_enter Tryz.func91, Tryz.ntmps91
      go_wp2
      refine wp_loop_rounds 2 ?_; rw [rounds_succ]
      go_wp2
      rw [rounds_succ]
      go_wp2
      go_ret
      exact ⟨ret_int rfl, rfl⟩
  · have hb : (x != 0) = true := by simp [hx]
    have HX := Lib.hid hx; clear hx
    go_enter Tryz.func91, Tryz.ntmps91
    go_wp2
    refine wp_loop_rounds 1 ?_; rw [rounds_succ]
    go_wp2
    go_ret
    exact ⟨ret_int (by unfold orI; rw [if_neg HX.out]), rfl⟩

/-- How two commands at times stand to each other. -/
def cmpA (x y : Int × Int) : Int := orI (Lib.compareInt x.1 y.1) (Lib.compareInt x.2 y.2)
def encA_I (x : Int × Int) : List Value := [.int .i64 x.1, .int .i64 x.2]
theorem grown4 (w : World) (a b c d : Obj) : ((((w.alloc a).alloc b).alloc c).alloc d).drew = grow (w.drewN 1) #[a, b, c, d] := by
  rw [alloc_eq_grow, alloc_eq_grow, alloc_eq_grow, alloc_eq_grow, grow_grow, grow_grow, grow_grow]; rfl
theorem Below.of_grow (W : World) (q : Nat) (os : Array Obj) : Below W.heap.size W (grow (W.drewN q) os) :=
  ⟨rfl, rfl, rfl, by simp [grow, World.drewN], fun k hk => by simp [grow, World.drewN, Array.getElem?_append_left hk]⟩
set_option maxRecDepth 100000 in
set_option maxHeartbeats 400000 in
theorem of_grown (x y : Int × Int) (w : World) :
    Calls Tryz.prog 74 #[.agg #[], .agg #[.int .i64 x.1, .int .i64 x.2], .agg #[.int .i64 y.1, .int .i64 y.2]] w fun e w' => e = .returned (.int .i64 (cmpA x y)) ∧ ∃ q os', w' = grow (w.drewN q) os' := by
  go_enter Tryz.func74, Tryz.ntmps74
  go_wp2
  refine wp_region_tail 10 (by kernel_rfl) (by kernel_rfl) ?_
  simp only [List.take_succ_cons, List.take_zero, List.drop_succ_cons, List.drop_zero]
  repeat (first | still_step | still_call (Tryz.cmp_Compare_int _ _ _))
  refine wpStill_nil ?_
  generalize hc1 : Lib.compareInt x.1 y.1 = c1
  generalize hc2 : Lib.compareInt x.2 y.2 = c2
  have HC : Hid (orI c1 c2 = cmpA x y) := by subst hc1 hc2; rfl
  clear hc1 hc2
  go_wp2_with (go_at_call 91; refine (Or2_any c1 c2 _ _ _ (by simp [go_sem]) (by simp [go_sem])).mono ?_; rintro e w' ⟨rfl, rfl⟩)
  go_ret
  exact ⟨ret_int HC.out, 1, _, grown4 _ _ _ _ _⟩
theorem of_any_I (x y : Int × Int) (w : World) :
    Calls Tryz.prog 74 #[.agg #[], .agg #[.int .i64 x.1, .int .i64 x.2], .agg #[.int .i64 y.1, .int .i64 y.2]] w fun e w' => e = .returned (.int .i64 (cmpA x y)) ∧ Below w.heap.size w w' :=
  (of_grown x y w).mono fun _ _ ⟨he, q, os, hw⟩ => ⟨he, by rw [hw]; exact Below.of_grow _ _ _⟩
def lessA (x y : Int × Int) : Bool := decide (x.1 < y.1 ∨ x.1 = y.1 ∧ x.2 < y.2)
theorem cmpA_lt (x y : Int × Int) : decide (cmpA x y < 0) = lessA x y := by
  unfold cmpA orI lessA Lib.compareInt
  by_cases h1 : x.1 < y.1
  · simp [h1]
  · by_cases h2 : y.1 < x.1
    · have : x.1 ≠ y.1 := by omega
      simp [h1, h2, this]
    · have : x.1 = y.1 := by omega
      by_cases h3 : x.2 < y.2
      · simp [this, h3]
      · by_cases h4 : y.2 < x.2 <;> simp [this, h3, h4]
theorem rLess_any (x y : Int × Int) (w : World) :
    Calls Tryz.prog 66 #[.agg #[.int .i64 x.1, .int .i64 x.2], .agg #[.int .i64 y.1, .int .i64 y.2]] w fun e w' => e = .returned (.bool (lessA x y)) ∧ Below w.heap.size w w' := by
  go_enter Tryz.func66, Tryz.ntmps66
  go_wp2
  · have h : (x.1 != y.1) = true := by assumption
    go_ret
    refine ⟨ret_bool ?_, ((Below.refl _ _).alloc (Nat.le_refl _) _).alloc (by simp) _⟩
    have h' : ¬ x.1 = y.1 := by simpa using h
    unfold lessA; simp [h']
  · have h : (x.1 != y.1) = false := by assumption
    go_ret
    refine ⟨ret_bool ?_, ((Below.refl _ _).alloc (Nat.le_refl _) _).alloc (by simp) _⟩
    have h' : x.1 = y.1 := by simpa using h
    unfold lessA; simp [h']
end Go.Proofs.YtgpejfkmdenonaaGreat
namespace Go.Proofs.YtgpejfkmdenonaaGreat
open Go.RowKit Go.Sort Go.Lib

/-- The bound method. -/
def byV : Value := .func (.func 74) #[.agg #[]] #[]
set_option maxRecDepth 100000 in
theorem ltOf_cmpA : ltOf cmpA = lessA := by funext x y; exact cmpA_lt x y

set_option maxHeartbeats 4000000 in
set_option maxRecDepth 1000000 in
theorem ins_any (blk off cap a b : Nat) (d : Array (Int × Int)) (w : World) (hH : HoldsK encA_I 2 w blk off d) (hblk : blk < w.heap.size) (hab : a ≤ b) (hb : b ≤ d.size) (hsz : d.size < 4611686018427387904) :
    Calls Tryz.prog 103 #[.slice (some ⟨blk, off, none⟩) d.size cap, .int .i64 a, .int .i64 b, .func (.func 74) #[.agg #[]] #[]] w fun e w' =>
      e = .returned (.tuple #[]) ∧ ∃ n os, w' = sortWorldK encA_I 2 w blk off n (Sort.insertionSort (ltOf cmpA) d a b) os := by
  have HST : Hid (w = sortWorldK encA_I 2 w blk off 0 d #[]) := by show w = _; unfold sortWorldK; rw [grow_empty]; exact (putRowK_self encA_I 2 w blk off d hH).symm
  have HH : Hid (HoldsK encA_I 2 w blk off d) := hH
  clear hH
  go_enter Tryz.func103, Tryz.ntmps103
  go_wp2
  go_loopg [8] (b - a) (fun g1 vi wr => ∃ (i n : Nat) (dk : Array (Int × Int)) (os : Array Obj), vi = .int .i64 i ∧ a < i ∧ i ≤ b + 1 ∧ b + 1 - i ≤ g1 + 1 ∧ dk.size = d.size ∧ wr = sortWorldK encA_I 2 w blk off n dk os ∧ Hid (insOuter (ltOf cmpA) a b i dk = insOuter (ltOf cmpA) a b (a + 1) d))
  case atStart => exact ⟨a + 1, 0, d, #[], by go_num, by omega, by omega, by omega, rfl, HST.out, rfl⟩
  case round =>
    obtain ⟨i, n, dk, os, rfl, hai, hib, hg1, hsk, rfl, HO⟩ := hrel
    by_cases hlt : i < b
    · have hltz : (i : Int) < (b : Int) := by omega
      go_wp2
      go_loopg [9] i (fun g2 vj wr2 => ∃ (j m : Nat) (dj : Array (Int × Int)) (oj : Array Obj), vj = .int .i64 j ∧ a ≤ j ∧ j ≤ i ∧ j ≤ g2 ∧ dj.size = d.size ∧ wr2 = sortWorldK encA_I 2 w blk off m dj oj ∧ Hid (insInner (ltOf cmpA) a j dj = insInner (ltOf cmpA) a i dk))
      case atStart => exact ⟨i, n, dk, os, rfl, by omega, Nat.le_refl _, Nat.le_refl _, hsk, rfl, rfl⟩
      case round =>
        obtain ⟨j, m, dj, oj, rfl, haj, hji, hg2, hsj, rfl, HI⟩ := hrel
        have OUT : Hid ((j ≤ a ∨ ltOf cmpA dj[j]! dj[j - 1]! = false) → Hid (insOuter (ltOf cmpA) a b (i + 1) dj = insOuter (ltOf cmpA) a b (a + 1) d)) := fun hs => by
          show _ = _
          rw [← HO.out, insOuter_go _ _ _ _ _ hlt, ← HI.out, insInner_stop _ _ _ _ hs]
        by_cases hja : a < j
        · have hjaz : (a : Int) < (j : Int) := by omega
          obtain ⟨jp, rfl⟩ : ∃ jp, j = jp + 1 := ⟨j - 1, by omega⟩
          obtain ⟨xj, hxj⟩ : ∃ x, dj[jp + 1]! = x := ⟨_, rfl⟩
          obtain ⟨xp, hxp⟩ : ∃ x, dj[jp]! = x := ⟨_, rfl⟩
          have hcls : ∀ n' os', grow ((sortWorldK encA_I 2 w blk off m dj oj).drewN n') os' = sortWorldK encA_I 2 w blk off (m + n') dj (oj ++ os') := fun n' os' => sortWorldK_grown_c encA_I 2 w blk off m n' dj oj os'
          have hHc : ∀ n' os', HoldsK encA_I 2 (grow ((sortWorldK encA_I 2 w blk off m dj oj).drewN n') os') blk off dj := fun n' os' => by rw [hcls]; exact holdsK_sortWorldK_c encA_I 2 w blk off d dj _ _ HH.out hblk hsj
          have cs : ∀ n' os' i c, i < d.size → c < 2 → (grow ((sortWorldK encA_I 2 w blk off m dj oj).drewN n') os').cell? ⟨blk, off + i * 2 + c, none⟩ = some (encA_I dj[i]!)[c]! := fun n' os' i c hi hc => ((hHc n' os').cell (i := i) (c := c) (by omega) hc).1
          have c1 : ∀ n' os', (grow ((sortWorldK encA_I 2 w blk off m dj oj).drewN n') os').cell? ⟨blk, off + (jp + 1) * 2, none⟩ = some (.int .i64 xj.1) := fun n' os' => by
            have := cs n' os' (jp + 1) 0 (by omega) (by omega); rw [hxj] at this; exact this
          have c2 : ∀ n' os', (grow ((sortWorldK encA_I 2 w blk off m dj oj).drewN n') os').cell? ⟨blk, off + (jp + 1) * 2 + 1, none⟩ = some (.int .i64 xj.2) := fun n' os' => by
            have := cs n' os' (jp + 1) 1 (by omega) (by omega); rw [hxj] at this; exact this
          have c3 : ∀ n' os', (grow ((sortWorldK encA_I 2 w blk off m dj oj).drewN n') os').cell? ⟨blk, off + jp * 2, none⟩ = some (.int .i64 xp.1) := fun n' os' => by
            have := cs n' os' jp 0 (by omega) (by omega); rw [hxp] at this; exact this
          have c4 : ∀ n' os', (grow ((sortWorldK encA_I 2 w blk off m dj oj).drewN n') os').cell? ⟨blk, off + jp * 2 + 1, none⟩ = some (.int .i64 xp.2) := fun n' os' => by
            have := cs n' os' jp 1 (by omega) (by omega); rw [hxp] at this; exact this
          have hcg := fun W => of_grown xj xp W
          have HLT := Lib.hid (show ltOf cmpA xj xp = decide (cmpA xj xp < 0) from rfl)
          have CLS : Hid _ := hcls
          clear hcls hHc cs
          generalize hwq : sortWorldK encA_I 2 w blk off m dj oj = wq at c1 c2 c3 c4 CLS ⊢
          generalize cmpA xj xp = cv at hcg HLT
          have HCG := Lib.hid hcg; clear hcg
          have HWQ := Lib.hid hwq; clear hwq
          have HXJ := Lib.hid hxj; clear hxj
          have HXP := Lib.hid hxp; clear hxp
          have mixed : Tryz.prog.follows .mixedOrders = true := by kernel_rfl
          have jz : (jp : Int) + 1 < (d.size : Int) := by omega
          have jz1 : (jp : Int) < (d.size : Int) := by omega
          have hjaz' : (a : Int) < (jp : Int) + 1 := by omega
          have p0 : (0 : Int) ≤ (jp : Int) + 1 := by omega
          have e0 : ((jp : Int) + 1).toNat = jp + 1 := by omega
          have hwp : IntKind.i64.wrap (jp : Int) = (jp : Int) := by rw [IntKind.wrap_i64]; omega
          by_cases hlv : cv < 0
          · go_wp2_with fail
            go_quiet_grown (first | (go_at_call 74; refine Calls.grown_of (HCG.out _)))
            go_wp2_with fail
            have hw2 : grow (wq.drewN nq) osq = sortWorldK encA_I 2 w blk off (m + nq) dj (oj ++ osq) := CLS.out nq osq
            have hHd : HoldsK encA_I 2 (grow (wq.drewN nq) osq) blk off dj := by rw [hw2]; exact holdsK_sortWorldK_c encA_I 2 w blk off d dj _ _ HH.out hblk hsj
            clear c1 c2 c3 c4
            generalize grow (wq.drewN nq) osq = wq2 at hw2 hHd ⊢
            have HW2 : Hid (wq2 = sortWorldK encA_I 2 w blk off (m + nq) dj (oj ++ osq)) := hw2
            have f1 := hHd.cell (i := jp + 1) (c := 0) (by omega) (by omega)
            have f2 := hHd.cell (i := jp + 1) (c := 1) (by omega) (by omega)
            have f3 := hHd.cell (i := jp) (c := 0) (by omega) (by omega)
            have f4 := hHd.cell (i := jp) (c := 1) (by omega) (by omega)
            rw [HXJ.out] at f1 f2
            rw [HXP.out] at f3 f4
            simp only [Nat.add_zero, encA_I, List.getElem!_cons_zero, List.getElem!_cons_succ] at f1 f2 f3 f4
            obtain ⟨d1, z1⟩ := f1
            obtain ⟨d2, z2⟩ := f2
            obtain ⟨d3, z3⟩ := f3
            obtain ⟨d4, z4⟩ := f4
            clear hw2 hHd
            go_region
            all_goals go_wp2
            go_roundg jp
            case measure => omega
            case rel =>
              refine ⟨jp, m + nq + 1, swp dj (jp + 1) jp, oj ++ osq, by first | rfl | go_num | (congr 1; omega), by omega, by omega, Nat.le_refl _, by rw [size_swp]; exact hsj, ?_, (show Hid _ from ?_)⟩
              · have hs := sortWorldK_swp_c encA_I 2 w blk off (fun _ => rfl) (m + nq) dj (oj ++ osq) hblk (jp + 1) jp (by omega) (by omega)
                rw [HXJ.out, HXP.out, ← HW2.out] at hs
                exact hs
              · show _ = _
                have := insInner_go (ltOf cmpA) a (jp + 1) dj hja (by simp only [Nat.add_sub_cancel]; rw [HXJ.out, HXP.out, HLT.out]; exact decide_eq_true hlv)
                simp only [Nat.add_sub_cancel] at this
                rw [← HI.out, this]
          · go_wp2_with fail
            go_quiet_grown (first | (go_at_call 74; refine Calls.grown_of (HCG.out _)))
            go_wp2
            go_roundg (b - (i + 1))
            case measure => omega
            case rel => exact ⟨i + 1, _, dj, _, by go_num, by omega, by omega, by omega, hsj, CLS.out nq osq, OUT.out (Or.inr (by simp only [Nat.add_sub_cancel]; rw [HXJ.out, HXP.out, HLT.out]; exact decide_eq_false (by omega)))⟩
        · have hjaz : decide ((j : Int) > (a : Int)) = false := decide_eq_false (by omega)
          have hjaz' : ¬ (a : Int) < (j : Int) := by omega
          have HDR : Hid ((sortWorldK encA_I 2 w blk off m dj oj).drew = sortWorldK encA_I 2 w blk off (m + 1) dj oj) := rfl
          generalize hwq : sortWorldK encA_I 2 w blk off m dj oj = wq at HDR
          have HWQ := Lib.hid hwq; clear hwq
          go_wp2_with fail
          go_region
          all_goals go_wp2
          go_roundg (b - (i + 1))
          case measure => omega
          case rel => exact ⟨i + 1, m + 1, dj, oj, by go_num, by omega, by omega, by omega, hsj, HDR.out, OUT.out (Or.inl (by omega))⟩
    · have hltz : ¬ (i : Int) < (b : Int) := by omega
      go_wp2
      go_end0
      exact ⟨rfl, n, os, by unfold Sort.insertionSort; rw [← HO.out, insOuter_stop _ _ _ _ _ hlt]⟩
end Go.Proofs.YtgpejfkmdenonaaGreat
namespace Go.Proofs.YtgpejfkmdenonaaGreat
open Go.RowKit Go.Sort Go.Lib
set_option maxRecDepth 100000

set_option maxHeartbeats 1000000 in
set_option maxRecDepth 100000 in
theorem pdq_small (blk off cap : Nat) (d : Array (Int × Int)) (l : Int) (w : World) (hH : HoldsK encA_I 2 w blk off d) (hblk : blk < w.heap.size) (h12 : d.size ≤ 12) :
    Calls Tryz.prog 93 #[.slice (some ⟨blk, off, none⟩) d.size cap, .int .i64 0, .int .i64 d.size, .int .i64 l, .func (.func 74) #[.agg #[]] #[]] w fun e w' =>
      e = .returned (.tuple #[]) ∧ ∃ n os, w' = sortWorldK encA_I 2 w blk off n (Sort.insertionSort (ltOf cmpA) d 0 d.size) os := by
  have hI := ins_any blk off cap 0 d.size d w hH hblk (by omega) (by omega) (by omega)
  have HI := Lib.hid hI; clear hI hH
  generalize Sort.insertionSort (ltOf cmpA) d 0 d.size = r at HI ⊢
  have hz : (d.size : Int) ≤ 12 := by omega
  go_enter Tryz.func93, Tryz.ntmps93
  go_wp2
  refine wp_loop_rounds 1 ?_
  rw [rounds_succ]
  go_wp2_with (go_at_call 103; refine HI.out.mono ?_; rintro e w' ⟨rfl, n, os, rfl⟩)
  refine bodyPost_ret (results_none0 rfl _ _ _) rfl ?_
  exact ⟨rfl, n, os, rfl⟩
set_option maxRecDepth 100000 in
set_option maxHeartbeats 1000000 in
theorem SortFunc_small (blk off cap : Nat) (d : Array (Int × Int)) (w : World) (hH : HoldsK encA_I 2 w blk off d) (hblk : blk < w.heap.size) (h12 : d.size ≤ 12) :
    Calls Tryz.prog 75 #[.slice (some ⟨blk, off, none⟩) d.size cap, .func (.func 74) #[.agg #[]] #[]] w fun e w' =>
      e = .returned (.tuple #[]) ∧ ∃ n os, w' = sortWorldK encA_I 2 w blk off n (Sort.insertionSort (ltOf cmpA) d 0 d.size) os := by
  have hP := fun l => pdq_small blk off cap d l w hH hblk h12
  have HP := Lib.hid hP; clear hP hH
  generalize Sort.insertionSort (ltOf cmpA) d 0 d.size = r at HP ⊢
  go_enter Tryz.func75, Tryz.ntmps75
  go_wp2_with (first | (go_at_call 70; refine (Tryz.bits_Len _ _ (by omega) (by omega)).mono ?_; rintro e w' ⟨rfl, rfl⟩) | (go_at_call 93; refine (HP.out _).mono ?_; rintro e w' ⟨rfl, n, os, rfl⟩))
  go_end0
  exact ⟨rfl, n, os, rfl⟩
theorem swoA : SWO (ltOf cmpA) where
  irrefl x := by rw [ltOf_cmpA]; unfold lessA; simp
  trans x y z h1 h2 := by rw [ltOf_cmpA] at *; unfold lessA at *; simp at *; omega
  ntrans x y z h1 h2 := by rw [ltOf_cmpA] at *; unfold lessA at *; simp at *; omega
theorem insA_size (d : Array (Int × Int)) : (Sort.insertionSort (ltOf cmpA) d 0 d.size).size = d.size :=
  (insertionSort_holds (lt := ltOf cmpA) swoA d 0 d.size (Nat.zero_le _) (Nat.le_refl _)).1.1
theorem att_info_I : (Tryz.prog.info? 50).map (fun i => (i.zero, i.size, i.bytes)) = some (some (.agg #[.int .i64 0, .int .i64 0]), 2, 16) := by kernel_rfl
theorem encA_one {d : Array (Int × Int)} : ∀ u ∈ (flatK encA_I 2 d).toList, u.oneCell' = true := by
  intro u hu
  simp only [flatK, Array.toList_map, List.mem_map] at hu
  obtain ⟨t, _, rfl⟩ := hu
  have : t % 2 = 0 ∨ t % 2 = 1 := by omega
  rcases this with h | h <;> rw [h] <;> rfl
theorem CloneA (b off cap : Nat) (d : Array (Int × Int)) (w : World) (hd : d.size ≤ 1000000) (hc : ∀ t, t < d.size * 2 → w.cell? ⟨b, off + t, none⟩ = some (flatK encA_I 2 d)[t]!) :
    Calls Tryz.prog 24 #[.slice (some ⟨b, off, none⟩) d.size cap] w fun e w' => ∃ g cap', e = .returned (.slice (some ⟨g, 0, none⟩) d.size cap') ∧ w.heap.size ≤ g ∧ g < w'.heap.size ∧ HoldsK encA_I 2 w' g 0 d ∧ Below w.heap.size w w' := by
  obtain ⟨i0, hi0, hz0, hz1, hz2⟩ := info_parts att_info_I
  refine (AnyE.slices_Clone Tryz.laysClone i0 _ 2 16 hi0 hz0 hz1 hz2 rfl (by omega) Tryz.sizeOf50 b off d.size cap (flatK encA_I 2 d).toList w (by simp) (by unfold maxLen; omega) (by omega) (fun j u hj => ?_) encA_one).mono ?_
  · have hlt : j < (flatK encA_I 2 d).size := by
      rcases Nat.lt_or_ge j (flatK encA_I 2 d).size with h | h
      · exact h
      · rw [Array.getElem?_toList, Array.getElem?_eq_none h] at hj; cases hj
    rw [Array.getElem?_toList, Array.getElem?_eq_getElem hlt] at hj
    injection hj with hj
    rw [hc j (by rw [size_flatK] at hlt; exact hlt), getElem!_pos _ j hlt, hj]
  · rintro e w' ⟨v, rfl, hown, hnil, hb⟩
    obtain ⟨g, cap', rfl, h1, h2, h3⟩ := holds_of_owns hown hnil
    exact ⟨g, cap', rfl, h1, h2, h3, hb⟩
theorem Below.of_sortWorldK {w1 : World} {g : Nat} (w : World) (hb : Below w.heap.size w w1) (hg : w.heap.size ≤ g) (n : Nat) (d : Array (Int × Int)) (os : Array Obj) : Below w.heap.size w (sortWorldK encA_I 2 w1 g 0 n d os) := by
  refine hb.trans ⟨rfl, rfl, rfl, size_sortWorldK_c encA_I 2 w1 g 0 n d os, fun i hi => ?_⟩
  have hi1 : i < w1.heap.size := Nat.lt_of_lt_of_le hi hb.size
  show ((putRowK encA_I 2 (Sort.ahead w1 n) g 0 d).heap ++ os)[i]? = _
  rw [Array.getElem?_append_left (by rw [size_putRowK]; exact hi1)]
  show ((Sort.ahead w1 n).heap.modify g _)[i]? = _
  rw [Array.getElem?_modify, if_neg (by omega)]
  rfl
set_option maxRecDepth 100000 in
set_option maxHeartbeats 1000000 in
theorem Sort_small (b off cap : Nat) (d : Array (Int × Int)) (w : World) (h12 : d.size ≤ 12) (hc : ∀ t, t < d.size * 2 → w.cell? ⟨b, off + t, none⟩ = some (flatK encA_I 2 d)[t]!) :
    Calls Tryz.prog 57 #[.slice (some ⟨b, off, none⟩) d.size cap] w fun e w' => ∃ g cap', e = .returned (.slice (some ⟨g, 0, none⟩) d.size cap') ∧ g < w'.heap.size ∧ HoldsK encA_I 2 w' g 0 (Sort.insertionSort (ltOf cmpA) d 0 d.size) ∧ Below w.heap.size w w' := by
  have hC := CloneA b off cap d w (by omega) hc
  have HC := Lib.hid hC; clear hC hc
  go_enter Tryz.func57, Tryz.ntmps57
  go_wp2_with fail
  refine HC.out.mono ?_
  rintro e w1 ⟨g, cap', rfl, hg1, hg2, hH, hb⟩
  have hS := SortFunc_small g 0 cap' d w1 hH hg2 h12
  have HS := Lib.hid hS; clear hS
  have HH := Lib.hid hH; clear hH
  go_wp2_with fail
  refine HS.out.mono ?_
  rintro e w2 ⟨rfl, n, os, rfl⟩
  go_wp2
  go_ret
  refine ⟨g, cap', rfl, ?_, ?_, ?_⟩
  · exact Nat.lt_of_lt_of_le hg2 (size_sortWorldK_c encA_I 2 w1 g 0 n _ os)
  · exact holdsK_sortWorldK_c encA_I 2 w1 g 0 d _ n os HH.out hg2 (insA_size d)
  · exact Below.of_sortWorldK w hb hg1 n _ os
end Go.Proofs.YtgpejfkmdenonaaGreat
namespace Go.Proofs.YtgpejfkmdenonaaGreat
open Go.RowKit Go.Sort Go.Lib
set_option maxRecDepth 100000
theorem attGuard_I : Tryz.prog.eqGuardType Tryz.prog.depth 50 = false := by kernel_rfl
theorem eqA_run (x y : Int × Int) (w : World) : (binOp .eql 50 (.agg #[.int .i64 x.1, .int .i64 x.2]) (.agg #[.int .i64 y.1, .int .i64 y.2])).run Tryz.prog w = .ok (.bool (decide (x = y))) w := by
  have hS : Tryz.prog.underlying 50 = some (.struct (Tryz.prog.fieldsOf 50)) := by kernel_rfl
  have hp : Tryz.prog.stoodInHeld 50 = false := by kernel_rfl
  have u3 := Tryz.underlying3
  rw [run_eql_struct, show (10000 : Nat) = 9999 + 1 from rfl, run_equalIn_agg w 9999 50 _ _ hS hp]
  simp only [Program.fieldsOf, Tryz.underlying50]
  go_simp
  obtain ⟨x1, x2⟩ := x
  obtain ⟨y1, y2⟩ := y
  by_cases h1 : x1 = y1 <;> by_cases h2 : x2 = y2 <;> simp [h1, h2]
theorem neA_run_I (x y : Int × Int) (w : World) : (binOp .neq 50 (.agg #[.int .i64 x.1, .int .i64 x.2]) (.agg #[.int .i64 y.1, .int .i64 y.2])).run Tryz.prog w = .ok (.bool (!decide (x = y))) w := by
  have hS : Tryz.prog.underlying 50 = some (.struct (Tryz.prog.fieldsOf 50)) := by kernel_rfl
  have hp : Tryz.prog.stoodInHeld 50 = false := by kernel_rfl
  have u3 := Tryz.underlying3
  rw [run_neq_struct, show (10000 : Nat) = 9999 + 1 from rfl, run_equalIn_agg w 9999 50 _ _ hS hp]
  simp only [Program.fieldsOf, Tryz.underlying50]
  go_simp
  obtain ⟨x1, x2⟩ := x
  obtain ⟨y1, y2⟩ := y
  by_cases h1 : x1 = y1 <;> by_cases h2 : x2 = y2 <;> simp [h1, h2]
set_option maxRecDepth 100000 in
theorem arr_ext_I {α : Type} [Inhabited α] {d1 d2 : Array α} (hs : d1.size = d2.size) (h : ∀ j, j < d1.size → d1[j]! = d2[j]!) : d1 = d2 :=
  Array.ext hs fun t h1 h2 => by have := h t h1; rwa [getElem!_pos d1 t h1, getElem!_pos d2 t h2] at this
set_option maxRecDepth 100000 in
set_option maxHeartbeats 1000000 in
theorem SameAtts_any_I (A1 A2 : Option Addr) (c1 c2 : Nat) (d1 d2 : Array (Int × Int)) (B : Nat) (w : World) (h1 : RdK encA_I 2 B w A1 d1) (h2 : RdK encA_I 2 B w A2 d2) (_hn : d1.size ≤ 1000000) (hm : d2.size ≤ 1000000) :
    Calls Tryz.prog 39 #[.slice A1 d1.size c1, .slice A2 d2.size c2] w fun e w' => e = .returned (.bool (decide (d1 = d2))) ∧ ∃ n, w' = w.drewN n := by
  by_cases hs : d1.size = d2.size
  · have hb : ((d1.size : Int) != (d2.size : Int)) = false := by simp [hs]
    have HS := Lib.hid hs
    have hge : d1.size ≤ d2.size := by omega
    clear hs
    go_enter Tryz.func39, Tryz.ntmps39
    go_wp2
    go_loopw [5] (fun i wr => ∃ k n : Nat, k ≤ d1.size ∧ i = .int .i64 k ∧ wr = w.drewN n ∧ ∀ j, j < k → d1[j]! = d2[j]!) (fun i _ => d1.size - (intOf i).toNat)
    case atStart => exact ⟨0, 0, Nat.zero_le _, rfl, rfl, fun j hj => absurd hj (by omega)⟩
    case round =>
      obtain ⟨k, n, hk, rfl, rfl, hj⟩ := hrel
      have HJ := Lib.hid hj; clear hj
      by_cases hlt : k < d1.size
      · obtain ⟨b1, o1, rfl, _, f1⟩ := h1.at_ hlt
        obtain ⟨b2, o2, rfl, _, f2⟩ := h2.at_ (i := k) (by omega)
        have e10 := f1 0 (by omega)
        have e11 := f1 1 (by omega)
        have e20 := f2 0 (by omega)
        have e21 := f2 1 (by omega)
        have hnx := neA_run_I d1[k]! d2[k]!
        have hgd := attGuard_I
        have HX : Hid (k < d1.size) := hlt
        generalize hx : d1[k]! = x at e10 e11 hnx
        generalize hy : d2[k]! = y at e20 e21 hnx
        have HXX := Lib.hid hx; clear hx
        have HYY := Lib.hid hy; clear hy
        simp only [Nat.add_zero, encA_I, List.getElem!_cons_zero, List.getElem!_cons_succ] at e10 e11 e20 e21
        clear f1 f2
        have kz : (k : Int) < (d1.size : Int) := by omega
        have kz2 : (k : Int) < (d2.size : Int) := by omega
        by_cases hxy : x = y
        · have hd : decide (x = y) = true := by simp [hxy]
          have HXY := Lib.hid hxy; clear hxy
          rw [hd] at hnx
          clear hd
          go_wp2
          go_quiet (fail)
          go_wp2
          go_roundw
          case rel => exact ⟨k + 1, _, by omega, by go_num, rfl, fun j hj => by
            rcases Nat.lt_or_ge j k with h | h
            · exact HJ.out j h
            · obtain rfl : j = k := by omega
              rw [HXX.out, HYY.out]; exact HXY.out⟩
          case measure => simp [intOf]; omega
        · have hd : decide (x = y) = false := by simp [hxy]
          have HXY := Lib.hid hxy; clear hxy
          rw [hd] at hnx
          clear hd
          go_wp2
          go_quiet (fail)
          go_wp2
          go_ret
          exact ⟨ret_bool (by symm; rw [decide_eq_false_iff_not]; rintro rfl; exact HXY.out (by rw [← HXX.out, ← HYY.out])), _, World.drewN_drewN _ _ _⟩
      · go_wp2
        go_ret
        exact ⟨ret_bool (by symm; rw [decide_eq_true_iff]; exact arr_ext_I HS.out fun j hj => HJ.out j (by omega)), n, rfl⟩
  · have hb : ((d1.size : Int) != (d2.size : Int)) = true := by simp; omega
    have HS := Lib.hid hs; clear hs
    go_enter Tryz.func39, Tryz.ntmps39
    go_wp2
    go_ret
    exact ⟨ret_bool (by symm; rw [decide_eq_false_iff_not]; rintro rfl; exact HS.out rfl), 0, rfl⟩
end Go.Proofs.YtgpejfkmdenonaaGreat
namespace Go.Proofs.YtgpejfkmdenonaaGreat
open Go.RowKit Go.Sort Go.Lib
set_option maxRecDepth 100000

theorem aw_sort : Sort.insertionSort (ltOf cmpA) #[(2, 11), (1, 12), (1, 11)] 0 3 = #[(1, 11), (1, 12), (2, 11)] := by decide +kernel
end Go.Proofs.YtgpejfkmdenonaaGreat
