/- What was known stays known. -/
import Derived.Test.YtgpejfkmdenonaaGreatQKnQ
namespace Go.Proofs.YtgpejfkmdenonaaGreat
open Go.RowKit Go.Sort Go.Lib
theorem grow_add {k r : KN} {lo hi : Int} {atts : Array (Int × Int)} (h : AddA k lo hi atts) (hr : AddR k lo hi atts r) (hz : k.ats.size + atts.size ≤ 400) : ChkP r ∧ k.base ≤ r.base ∧ r.ats.size ≤ k.ats.size + atts.size ∧ ∀ t, inR k.rs t = true → hasK r t = true := by
  obtain ⟨l, h1, _, h3⟩ := hr.ok h hz
  refine ⟨h3.chk, h3.up, ?_, fun t ht => ?_⟩
  · rw [h3.eat]
    exact allK_size k atts
  · rw [h3.has]
    exact Or.inr ((h1.2 t).trans (pK_iff.2 (Or.inl ht)))
theorem grow_set {k s : KN} {ids : Array Int} (h : ChkP k) (hs : SetR k ids s) : ChkP s ∧ k.base ≤ s.base ∧ ∀ t, inR k.rs t = true → hasK s t = true := by
  obtain ⟨l, h1, _, h3⟩ := hs.ok h
  refine ⟨h3.chk, h3.up, fun t ht => ?_⟩
  rw [h3.has]
  exact Or.inr ((h1.2 t).trans (pS_iff.2 (Or.inl ht)))
theorem in_ends {k : KN} (h : ChkP k) {j : Nat} (hj : j < k.rs.size) : inR k.rs k.rs[j]!.1 = true ∧ inR k.rs k.rs[j]!.2 = true := by
  have hm : k.rs[j]! ∈ k.rs.toList := by rw [getElem!_pos k.rs j hj]; simp
  have := (NL.of_set h.rs).1 _ hm
  exact ⟨inR_iff.2 ⟨_, hm, by omega, by omega⟩, inR_iff.2 ⟨_, hm, by omega, by omega⟩⟩
theorem chkE_ok {k : KN} (h : ChkP k) : chkE k = 0 := by unfold chkE; rw [if_pos (chk_iff.2 h)]
theorem same_self (k : KN) : sameK k k = true := sameK_iff.2 rfl
theorem zero_known (w : World) : KnV w (.agg #[.int .i64 0, .slice none 0 0, .slice none 0 0]) ⟨0, #[], #[]⟩ := ⟨none, 0, none, 0, rfl, fun h => absurd h (by decide), fun h => absurd h (by decide), fun _ => rfl, fun _ => rfl⟩
end Go.Proofs.YtgpejfkmdenonaaGreat
