/- The law StableMerges returns true for every input, and changes nothing that lay there. No condition. -/
import Derived.Test.YtpnjodefnpphkaaStableJ
import Derived.Test.YtpnjodefnpphkaaOpenI
namespace Go.Proofs.Ytpnjodefnpphkaa.stableMerges
open Go.ChangeShapes Go.WideShapes Go.ChangeAt Go.RowKit

set_option maxHeartbeats 2000000 in
theorem walk (A1 : Option Addr) (c1 : Nat) (d1 : Array Int) (A2 : Option Addr) (c2 : Nat) (d2 : Array Int) (w : World) (h1 : RdI w.heap.size w A1 d1) (h2 : RdI w.heap.size w A2 d2) :
    Calls Try.prog 4 #[.slice A1 d1.size c1, .slice A2 d2.size c2] w fun e w' => e = .returned (.bool true) ∧ Below w.heap.size w w' := by
  by_cases hd : 300 < d1.size
  · have hz : (300 : Int) < (d1.size : Int) := by omega
    go_enter Try.func4, Try.ntmps4
    go_wp2_with (go_at_call 11; refine (awake17_any _).mono ?_; rintro e w3 ⟨rfl, hb3⟩)
    go_ret
    exact ⟨rfl, hb3⟩
  have hz : decide ((300 : Int) < (d1.size : Int)) = false := by simp; omega
  have hd1 : d1.size ≤ 100000000 := by omega
  clear hd
  by_cases hd : 300 < d2.size
  · have hz : (300 : Int) < (d2.size : Int) := by omega
    go_enter Try.func4, Try.ntmps4
    go_wp2_with (go_at_call 11; refine (awake17_any _).mono ?_; rintro e w3 ⟨rfl, hb3⟩)
    go_ret
    exact ⟨rfl, hb3⟩
  · have hz2 : decide ((300 : Int) < (d2.size : Int)) = false := by simp; omega
    have hd2 : d2.size ≤ 100000000 := by omega
    have hms : (mergeN d1 d2).size ≤ 100000000 := by rw [mergeN_size]; omega
    clear hd
    go_enter Try.func4, Try.ntmps4
    go_wp2_with fail
    refine (Least_any _ _ d1 _ _ h1 hd1).mono ?_
    rintro e w1' ⟨rfl, rfl⟩
    go_wp2_with fail
    refine (rLeast_any _ _ d1 _ _ h1 hd1).mono ?_
    rintro e w1' ⟨rfl, rfl⟩
    go_wp2_with fail
    refine (Merge_any _ _ _ _ d1 d2 _ h1 h2 hd1 hd2).mono ?_
    rintro e w1 ⟨A, c, rfl, hr1, hb1⟩
    have R1 := Lib.hid hr1; clear hr1
    have q1 := Lib.hid ((h1.below hb1).mono hb1.size)
    have q2 := Lib.hid ((h2.below hb1).mono hb1.size)
    go_wp2_with fail
    refine (rMerge_any _ _ _ _ d1 d2 _ q1.out q2.out hd1 hd2).mono ?_
    rintro e w2 ⟨A', c', rfl, hr2, hb2⟩
    have R2 := Lib.hid hr2; clear hr2
    go_wp2_with fail
    refine (SameInts_any _ _ _ _ (mergeN d1 d2) (mergeN d1 d2) _ _ _ (R1.out.below hb2) R2.out hms).mono ?_
    rintro e w3 ⟨rfl, n3, rfl⟩
    rw [show decide (mergeN d1 d2 = mergeN d1 d2) = true by simp]
    go_wp2_with fail
    refine (awake17_any _).mono ?_
    rintro e w5 ⟨rfl, hb5⟩
    go_wp2
    go_ret
    exact ⟨rfl, belStep (belDrewN (belStep hb1 hb2) n3) hb5⟩

set_option maxRecDepth 100000 in
theorem lifted (os : Os) (started : os.Started) (H : Type) (enc : TypeId × Value → H) :
    ReturnsInHanded {} Try.checked os 4 .any (Rows.stableMergesSpec.pre6 enc Try.prog Try.f4 Rows.stableMergesRow.domain false) (Rows.stableMergesSpec.post enc Try.prog Try.f4 false true false false) := by
  refine returnsInHanded_of_change_sized (C := Try.checked) own started (by kernel_rfl) Try.func4
    (ChangeSpec.witness6 (enc := enc) (C := Try.checked) false ⟨#[], #[.slice none 0 0, .slice none 0 0], []⟩ 8 (by kernel_rfl) (by kernel_rfl) (by kernel_rfl) (by kernel_rfl)) ?_
  intro W base args ds gs before hval0 hW _ _ _
  have hval : ∀ (j : Nat) t v, Try.f4.params[j]? = some t → args[j]? = some v → Value.okWide Try.prog W .any base t v := hval0
  have hW' := hW
  obtain ⟨p, q, hA0, hV, rfl, _, _⟩ := hW
  have hA : DataW.TrodAll enc Try.prog W 0 (fun _ => true) true Try.f4.params.toList args.toList ds p := hA0
  rw [Try.params4] at hA hval
  obtain ⟨v0, v1, d0, d1, p0, p1, rfl, rfl, rfl, h0, h1⟩ := trodAll_two hA
  obtain ⟨rfl, rfl⟩ := trodVars_none hV
  obtain ⟨A0, c0, z0, rfl, r0, _, _⟩ := open_rdI Try.underlying22 Try.underlying3 (by kernel_rfl) (hval 0 22 v0 rfl rfl) h0
  obtain ⟨A1, c1, z1, rfl, r1, _, _⟩ := open_rdI Try.underlying22 Try.underlying3 (by kernel_rfl) (hval 1 22 v1 rfl rfl) h1
  refine (walk A0 c0 z0 A1 c1 z1 W r0 r1).mono fun e W' ⟨he, hb⟩ => ?_
  subst he
  exact ⟨_, rfl, law_post (tb := 4) laidOut (by decide +kernel) rfl hW' rfl rfl rfl rfl Try.underlying4 hb⟩

theorem over : Rows.stableMergesRow.holds Try.pinned (OpenSpec.ofChange Rows.stableMergesSpec) :=
  OpenClaim.holds_of_wide 4 Try.f4 rfl rfl rfl rfl rfl rfl rfl ⟨rfl, rfl, rfl, rfl, rfl⟩ rfl rfl rfl rfl rfl (by kernel_rfl) Try.func4 (by kernel_rfl)
    (of_decide_eq_true (by kernel_rfl)) (by unfold Func.isWrapper; first | (rw [if_pos (by decide +kernel)]; kernel_rfl) | (rw [if_neg (by decide +kernel)]; exact ⟨rfl, rfl⟩))
    (fun os started H enc _ => lifted os started H enc)
theorem proved : Rows.StableMergesSaid := over
#print axioms proved
end Go.Proofs.Ytpnjodefnpphkaa.stableMerges
