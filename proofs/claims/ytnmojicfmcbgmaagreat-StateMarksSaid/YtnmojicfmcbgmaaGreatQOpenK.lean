/- Arguments of what is known, and of promises that are told, opened. What was known stays known. The plain law of a replica's own mark: what is told up to the clock, and settled, is known. What Add comes to, one for the program and the document. -/
import Derived.Deep.Fields
import Derived.Deep.Slices
import Derived.Lib.SmallJoins
import Derived.Test.YtnmojicfmcbgmaaGreatQKnJ
import Derived.Test.YtnmojicfmcbgmaaGreatQLaw
import Derived.Test.YtnmojicfmcbgmaaGreatQBase
import Derived.Test.YtnmojicfmcbgmaaGreatQRead
import Derived.Test.YtnmojicfmcbgmaaGreatQRangesO
import Derived.Deep.AppendLies
import Derived.Deep.CutRange
import Derived.Deep.CutBlock
import Derived.Deep.RegionHeld3
import Derived.Test.YtnmojicfmcbgmaaGreatQSortK
import Derived.Test.YtnmojicfmcbgmaaGreatQIdentC
import Derived.Test.YtnmojicfmcbgmaaGreatQIdentE
namespace Go.Proofs.YtnmojicfmcbgmaaGreat
open Go.ChangeShapes Go.WideShapes Go.ChangeAt Go.RowKit Go.Deep Go.Joins
section
variable {H : Type} {enc : TypeId × Value → H} {P : Program} {w : World}
end
def fewK (k : KN) : Bool := decide (k.rs.size ≤ 100) && decide (k.ats.size ≤ 100)
theorem fewK_iff {k : KN} : fewK k = true ↔ k.rs.size ≤ 100 ∧ k.ats.size ≤ 100 := by unfold fewK; simp
set_option maxRecDepth 100000 in
set_option maxHeartbeats 1000000 in
theorem Few16_any (v : Value) (k : KN) (w : World) (h : KnV w v k) : Calls Tryz.prog 21 #[v] w fun e w' => e = .returned (.bool (fewK k)) ∧ Below w.heap.size w w' := by
  obtain ⟨base, rs, ats⟩ := k
  obtain ⟨A1, c1, A2, c2, rfl, _⟩ := h
  have HF : Hid (fewK ⟨base, rs, ats⟩ = (decide (rs.size ≤ 100) && decide (ats.size ≤ 100))) := Lib.hid rfl
  by_cases h1 : rs.size ≤ 100
  · have q1 : decide ((rs.size : Int) ≤ 100) = true := decide_eq_true (by omega)
    by_cases h2 : ats.size ≤ 100
    · have q2 : decide ((ats.size : Int) ≤ 100) = true := decide_eq_true (by omega)
      have HE : Hid (fewK ⟨base, rs, ats⟩ = true) := by show _ = _; rw [HF.out]; simp [h1, h2]
      clear h1 h2
      go_enter Tryz.func21, Tryz.ntmps21
      go_wp2
      go_ret
      exact ⟨ret_bool HE.out.symm, bel1 w _⟩
    · have q2 : decide ((ats.size : Int) ≤ 100) = false := decide_eq_false (by omega)
      have HE : Hid (fewK ⟨base, rs, ats⟩ = false) := by show _ = _; rw [HF.out]; simp [h2]
      clear h1 h2
      go_enter Tryz.func21, Tryz.ntmps21
      go_wp2
      go_ret
      exact ⟨ret_bool HE.out.symm, bel1 w _⟩
  · have q1 : decide ((rs.size : Int) ≤ 100) = false := decide_eq_false (by omega)
    have HE : Hid (fewK ⟨base, rs, ats⟩ = false) := by show _ = _; rw [HF.out]; simp [h1]
    clear h1
    go_enter Tryz.func21, Tryz.ntmps21
    go_wp2
    go_ret
    exact ⟨ret_bool HE.out.symm, bel1 w _⟩
end Go.Proofs.YtnmojicfmcbgmaaGreat
namespace Go.Proofs.YtnmojicfmcbgmaaGreat
open Go.RowKit Go.Sort Go.Lib
theorem grow_add {k r : KN} {lo hi : Int} {atts : Array (Int × Int)} (h : AddA k lo hi atts) (hr : AddR k lo hi atts r) (hz : k.ats.size + atts.size ≤ 400) : ChkP r ∧ k.base ≤ r.base ∧ r.ats.size ≤ k.ats.size + atts.size ∧ ∀ t, inR k.rs t = true → hasK r t = true := by
  obtain ⟨l, h1, _, h3⟩ := hr.ok h hz
  refine ⟨h3.chk, h3.up, ?_, fun t ht => ?_⟩
  · rw [h3.eat]
    exact allK_size k atts
  · rw [h3.has]
    exact Or.inr ((h1.2 t).trans (pK_iff.2 (Or.inl ht)))
theorem grow_set {k s : KN} {ids : Array Int} (h : ChkP k) (hs : SetR k ids s) : ChkP s ∧ k.base ≤ s.base ∧ ∀ t, inR k.rs t = true → hasK s t = true := by
  obtain ⟨l, h1, _, h3⟩ := hs.ok h
  refine ⟨h3.chk, h3.up, fun t ht => ?_⟩
  rw [h3.has]
  exact Or.inr ((h1.2 t).trans (pS_iff.2 (Or.inl ht)))
end Go.Proofs.YtnmojicfmcbgmaaGreat
namespace Go.Proofs.YtnmojicfmcbgmaaGreat
open Go.RowKit Go.Sort Go.Lib
/-- Nothing open is left, and nothing was unknown ahead of what is told: then all is known up to its end. -/
theorem own_mark {k0 k1 k2 : KN} {lo hi : Int} {atts : Array (Int × Int)} {ids : Array Int} (hA : AddA k0 lo hi atts) (h1 : AddR k0 lo hi atts k1) (hz : k0.ats.size + atts.size ≤ 400) (h2 : SetR k1 ids k2) (he : k2.ats.size = 0) (hl : lo ≤ k0.base) : hi ≤ k2.base := by
  obtain ⟨l1, i1, _, f1⟩ := h1.ok hA hz
  obtain ⟨l2, i2, _, f2⟩ := h2.ok f1.chk
  refine Classical.byContradiction fun hc => ?_
  have hb1 := f1.up
  have hb2 := f2.up
  have n2 := f2.nx
  have p2 : pS k1 ids (k2.base + 1) = false := (i2.2 _).symm.trans n2
  have q1 : inR k1.rs (k2.base + 1) = false := by
    rw [Bool.eq_false_iff]
    exact fun h => (Bool.eq_false_iff.1 p2) (pS_iff.2 (Or.inl h))
  have q2 : inR l1 (k2.base + 1) = false := by
    rw [f1.out] at q1
    have : decide (k1.base < k2.base + 1) = true := decide_eq_true (by omega)
    rwa [this, Bool.and_true] at q1
  have q3 : pK k0 lo hi atts (k2.base + 1) = false := (i1.2 _).symm.trans q2
  have q4 : inR k0.rs (k2.base + 1) = false := by
    rw [Bool.eq_false_iff]
    exact fun h => (Bool.eq_false_iff.1 q3) (pK_iff.2 (Or.inl h))
  have q5 : ∃ x ∈ k1.ats.toList, x.1 = k2.base + 1 := by
    rw [f1.eat]
    by_cases ht : k2.base + 1 ∈ timesL k0.ats.toList
    · obtain ⟨x, hx, e⟩ := List.mem_map.1 ht
      exact ⟨x, allK_mem.2 (Or.inl hx), e⟩
    · by_cases hu : k2.base + 1 ∈ timesL atts.toList
      · obtain ⟨x, hx, e⟩ := List.mem_map.1 hu
        have e' : x.1 = k2.base + 1 := e
        exact ⟨x, allK_mem.2 (Or.inr ⟨hx, by omega, by rw [e']; exact q4, by rw [e']; exact ht⟩), e'⟩
      · exact absurd (pK_iff.2 (Or.inr ⟨⟨by omega, by omega⟩, hu, ht⟩)) (Bool.eq_false_iff.1 q3)
  obtain ⟨x, hx, e⟩ := q5
  have hs : k2.ats = stayK k1 ids := f2.eat
  have hd : doneK ids x = true := by
    cases hd : doneK ids x
    · have hm : x ∈ (stayK k1 ids).toList := by
        show x ∈ List.filter _ _
        exact List.mem_filter.2 ⟨hx, by rw [hd]; rfl⟩
      rw [← hs] at hm
      have : k2.ats.toList = [] := by
        rw [Array.size_eq_zero_iff.1 he]
      rw [this] at hm
      cases hm
    · rfl
  refine (Bool.eq_false_iff.1 p2) (pS_iff.2 (Or.inr ⟨x, hx, ?_, e⟩))
  unfold doneK at hd
  simpa using hd
end Go.Proofs.YtnmojicfmcbgmaaGreat
namespace Go.Proofs.YtnmojicfmcbgmaaGreat
open Go.RowKit Go.Sort Go.Lib
/-- What Add comes to: what is known then, and the error. -/
def AddQ (k : KN) (lo hi : Int) (atts : Array (Int × Int)) (r : KN) (c : Int) : Prop := (addB k lo hi atts = false ∧ r = ⟨0, #[], #[]⟩ ∧ c = 2) ∨ (AddA k lo hi atts ∧ AddR k lo hi atts r ∧ c = 0)
theorem AddQ.uniq {k : KN} {lo hi : Int} {atts : Array (Int × Int)} {r s : KN} {c d : Int} (h : AddQ k lo hi atts r c) (g : AddQ k lo hi atts s d) : r = s ∧ c = d := by
  rcases h with ⟨h0, rfl, rfl⟩ | ⟨h0, h1, rfl⟩
  · rcases g with ⟨_, rfl, rfl⟩ | ⟨g0, _, _⟩
    · exact ⟨rfl, rfl⟩
    · rw [add_iff.2 g0] at h0
      cases h0
  · rcases g with ⟨g0, _, _⟩ | ⟨_, g1, rfl⟩
    · rw [add_iff.2 h0] at g0
      cases g0
    · exact ⟨h1.uniq g1, rfl⟩
theorem sameK_self (k : KN) : sameK k k = true := sameK_iff.2 rfl
end Go.Proofs.YtnmojicfmcbgmaaGreat
