/- The iterator of the layer 'ranges': the ranges that are not empty, in order. -/
import Derived.RangeFuncNested
import Derived.RangeFuncBound
import Derived.RangeFuncCalls
import Derived.RangeFuncLeaves
import Derived.Shelf.Abstract
import Derived.Shelf.RegionOpen
import Derived.OwnWalkIn
import Derived.TacticsInMore
import Derived.LoopNIn
import Derived.LoopIn
import Derived.Maps.AppendAt
import Derived.Test.YtnmojicfmcbgmaaGreatQRangesE
namespace Go.Proofs.YtnmojicfmcbgmaaGreat
open Go.RowKit Go.Sort Go.Lib Go.Shelf

attribute [local go_sem] Oper.semAt_some

/-- Ranges that are not empty, of numbers from 1 to the last. -/
abbrev NR := { x : Int × Int // 1 ≤ x.1 ∧ x.1 ≤ x.2 ∧ x.2 ≤ 1000000 }
def isR (x : Int × Int) : Bool := decide (x.1 ≤ x.2)
def encN (x : NR) : Array Value := #[.agg #[.int .i64 x.1.1, .int .i64 x.1.2]]
/-- Block g lies as it lay. -/
def Kg (g : Nat) (W W' : World) : Prop := W.heap.size ≤ W'.heap.size ∧ W'.heap[g]? = W.heap[g]?
theorem Kg.refl (g : Nat) (W : World) : Kg g W W := ⟨Nat.le_refl _, rfl⟩
theorem Kg.trans {g : Nat} {A B C : World} (h : Kg g A B) (k : Kg g B C) : Kg g A C := ⟨Nat.le_trans h.1 k.1, k.2.trans h.2⟩
theorem Kg.alloc {g : Nat} {W W' : World} (h : Kg g W W') (hg : g < W.heap.size) (o : Obj) : Kg g W (W'.alloc o) :=
  ⟨by have := h.1; simp; omega, (Below.heap_alloc W' o g (by have := h.1; omega)).trans h.2⟩
theorem Kg.rd {α : Type} [Inhabited α] {enc : α → List Value} {k g off : Nat} {W W' : World} {d : Array α} (h : Kg g W W') (hg : g < W.heap.size) (hr : RdK enc k W.heap.size W (some ⟨g, off, none⟩) d) : RdK enc k W'.heap.size W' (some ⟨g, off, none⟩) d := fun h0 => by
  obtain ⟨b, off', e, _, hc⟩ := hr h0
  injection e with e
  injection e with e1 e2
  subst e1 e2
  refine ⟨g, off, rfl, Nat.lt_of_lt_of_le hg h.1, fun t ht => ?_⟩
  have := hc t ht
  unfold World.cell? at this ⊢
  simpa only [h.2] using this
set_option maxRecDepth 100000 in
set_option maxHeartbeats 2000000 in
theorem all2_in (F : Fence) (n : Nat) (hF : F.fn 189) (hro : F.round = none) (hn : 1 ≤ n) (l b g : Nat) (A : Option Addr) (c : Nat) (d : Array (Int × Int)) (hd : d.size ≤ 1000000) (J Jx : List NR → World → Prop)
    (hY : ∀ pre x W, J pre W → pre.length < d.size → YieldAt F (n - 1) Tryz.prog l (encN x) W fun e W' =>
      (e = .returned (.bool true) ∧ J (pre ++ [x]) W' ∧ Kg g W W') ∨ (e = .returned (.bool false) ∧ Jx (pre ++ [x]) W'))
    (W : World) (hJ : AbidesFrom W.heap.size J) (hg : g < W.heap.size) (hcell : W.cell? ⟨b, 0, none⟩ = some (.slice A d.size c)) (hR : ∀ wr, Kg g W wr → RdK encR 2 wr.heap.size wr A d)
    (hok : ∀ x ∈ d, isR x = true → 1 ≤ x.1 ∧ x.1 ≤ x.2 ∧ x.2 ≤ 1000000) (h0 : J [] W) :
    CallsIn F n Tryz.prog 189 #[.func (.yield l) #[] #[], .pointer (some ⟨b, 0, none⟩)] W fun e W' => (∃ v, e = .returned v) ∧
      ((∃ ys : List NR, ys.map (·.1) = d.toList.filter isR ∧ J ys W') ∨ (∃ pre, True ∧ Jx pre W')) := by
  have HY := Lib.hid hY
  have HJ := Lib.hid hJ
  have HOK := Lib.hid hok
  have HR := Lib.hid hR
  clear hY hJ hok hR
  refine callsIn_of_wp Tryz.func189 rfl hF ?_ hro
  simp only [Tryz.ntmps189, List.size_toArray, List.length_cons, List.length_nil, Nat.reduceAdd, Nat.reduceSub, Array.replicate_succ, Array.replicate_zero, List.push_toArray, List.append_toArray, List.nil_append, List.cons_append]
  gi_wp2
  gi_loopw [7] (fun i wr => ∃ (k : Nat) (pre : List NR), k ≤ d.size ∧ i = .int .i64 k ∧ pre.map (·.1) = (d.toList.take k).filter isR ∧ J pre wr ∧ Kg g W wr)
    (fun i _ => d.size - (intOf i).toNat)
  case atStart => exact ⟨0, [], Nat.zero_le _, rfl, rfl, h0, Kg.refl _ _⟩
  case round =>
    obtain ⟨k, pre, hk, rfl, hpre, hJs, hnx⟩ := hrel
    have HP := Lib.hid hpre
    clear hpre
    by_cases hlt : k < d.size
    · obtain ⟨b', off, rfl, hb', f⟩ := (HR.out wr hnx).at_ hlt
      have f0 := f 0 (by omega)
      have f1 := f 1 (by omega)
      clear f
      have HX : Hid (isR d[k]! = true → 1 ≤ d[k]!.1 ∧ d[k]!.1 ≤ d[k]!.2 ∧ d[k]!.2 ≤ 1000000) := HOK.out _ (by rw [getElem!_pos d k hlt]; exact Array.getElem_mem hlt)
      have HT : Hid ((d.toList.take (k + 1)).filter isR = (d.toList.take k).filter isR ++ [d[k]!].filter isR) := by
        show _ = _
        rw [List.take_succ_eq_append_getElem (by simpa using hlt), List.filter_append, getElem!_pos d k hlt]; rfl
      have HL : Hid (pre.length ≤ k) := by
        show _ ≤ _
        have e1 : pre.length = ((d.toList.take k).filter isR).length := by rw [← HP.out]; simp
        have e2 := List.length_filter_le isR (d.toList.take k)
        simp at e2
        omega
      generalize d[k]! = x at f0 f1 HX HT
      simp only [Nat.add_zero, encR, List.getElem!_cons_zero, List.getElem!_cons_succ] at f0 f1
      have kz : (k : Int) < (d.size : Int) := by omega
      have hJa : J pre (wr.alloc (.cells #[.int .i64 x.1, .int .i64 x.2] 81)) := HJ.out pre wr _ none hJs (World.grownBy_alloc wr _ none) (fun r e => by cases e)
      have hnxa : Kg g W (wr.alloc (.cells #[.int .i64 x.1, .int .i64 x.2] 81)) := hnx.alloc hg _
      by_cases hx : x.1 ≤ x.2
      · have hxr : isR x = true := by unfold isR; simp [hx]
        have hxo := HX.out hxr
        obtain ⟨fn, tmps, assign, body, hy, hRd⟩ := HY.out pre ⟨x, hxo⟩ _ hJa (by have := HL.out; omega)
        simp only [encN] at hy
        gi_wp2
        refine hRd.mono ?_
        rintro e W3 (⟨rfl, hJ3, hk3⟩ | ⟨rfl, hJx3⟩)
        · gi_wp2
          go_roundw
          case rel => exact ⟨k + 1, pre ++ [⟨x, hxo⟩], by omega, by go_num, by rw [HT.out, List.map_append, HP.out]; simp [hxr], hJ3, hnxa.trans hk3⟩
          case measure => simp [intOf]; omega
        · gi_wp2
          refine bodyPost_ret (results_none rfl _ _ _) rfl ?_
          exact ⟨⟨_, rfl⟩, .inr ⟨_, trivial, hJx3⟩⟩
      · have hxr : isR x = false := by unfold isR; simp; omega
        gi_wp2
        refine ⟨fun _ h => (by cases h), ?_⟩
        gi_wp2
        go_roundw
        case rel => exact ⟨k + 1, pre, by omega, by go_num, by rw [HT.out, HP.out]; simp [hxr], hJa, hnxa⟩
        case measure => simp [intOf]; omega
    · obtain rfl : k = d.size := by omega
      gi_wp2
      go_end0
      exact ⟨⟨_, rfl⟩, .inl ⟨_, by rw [HP.out, List.take_of_length_le (by simp)], hJs⟩⟩
end Go.Proofs.YtnmojicfmcbgmaaGreat
