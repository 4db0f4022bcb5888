/- The law StableTells returns true for every input, and changes nothing that lay there. No condition. -/
import Derived.Test.YtpnjodefnpphkaaStableJ
import Derived.Test.YtpnjodefnpphkaaOpenI
namespace Go.Proofs.Ytpnjodefnpphkaa.stableTells
open Go.ChangeShapes Go.WideShapes Go.ChangeAt Go.RowKit

set_option maxHeartbeats 2000000 in
theorem walk (A : Option Addr) (c : Nat) (d : Array Int) (n t : Int) (w : World) (h : RdI w.heap.size w A d) :
    Calls Try.prog 3 #[.slice A d.size c, .int .i64 n, .int .i64 t] w fun e w' => e = .returned (.bool true) ∧ Below w.heap.size w w' := by
  by_cases hd : 300 < d.size
  · have hz : (300 : Int) < (d.size : Int) := by omega
    go_enter Try.func3, Try.ntmps3
    go_wp2_with (go_at_call 11; refine (awake17_any _).mono ?_; rintro e w3 ⟨rfl, hb3⟩)
    go_ret
    exact ⟨rfl, hb3⟩
  · have hz : decide ((300 : Int) < (d.size : Int)) = false := by simp; omega
    have hd' : d.size ≤ 100000000 := by omega
    have HE := Lib.hid (ofS_eq d n)
    have HW := Lib.hid (who_eq d t)
    clear hd
    go_enter Try.func3, Try.ntmps3
    go_wp2_with fail
    refine (sCheck_any _ _ d _ _ _ h hd').mono ?_
    rintro e w1 ⟨rfl, hb1⟩
    have r1 := Lib.hid ((h.below hb1).mono hb1.size)
    go_wp2_with fail
    refine (rCheck_any _ _ d _ _ _ r1.out hd').mono ?_
    rintro e w1' ⟨rfl, rfl⟩
    go_wp2_with fail
    refine (Of_any _ _ d _ _ r1.out hd').mono ?_
    rintro e w2 ⟨rfl, hb2⟩
    have r2 := Lib.hid ((r1.out.below hb2).mono hb2.size)
    go_wp2_with fail
    refine (rOf_any _ _ d _ _ _ r2.out hd').mono ?_
    rintro e w2' ⟨rfl, rfl⟩
    rw [HE.out]
    go_wp2_with fail
    refine (Who_any _ _ d _ _ r2.out hd').mono ?_
    rintro e w3 ⟨rfl, hb3⟩
    have r3 := Lib.hid ((r2.out.below hb3).mono hb3.size)
    go_wp2_with fail
    refine (rWho_any _ _ d _ _ r3.out hd').mono ?_
    rintro e w4 ⟨rfl, hb4⟩
    rw [HW.out]
    go_wp2_with fail
    refine (awake17_any _).mono ?_
    rintro e w5 ⟨rfl, hb5⟩
    go_wp2
    go_ret
    exact ⟨rfl, belStep (belStep (belStep (belStep hb1 hb2) hb3) hb4) hb5⟩

set_option maxRecDepth 100000 in
theorem lifted (os : Os) (started : os.Started) (H : Type) (enc : TypeId × Value → H) :
    ReturnsInHanded {} Try.checked os 3 .any (Rows.stableTellsSpec.pre6 enc Try.prog Try.f3 Rows.stableTellsRow.domain false) (Rows.stableTellsSpec.post enc Try.prog Try.f3 false true false false) := by
  refine returnsInHanded_of_change_sized (C := Try.checked) own started (by kernel_rfl) Try.func3
    (ChangeSpec.witness6 (enc := enc) (C := Try.checked) false ⟨#[], #[.slice none 0 0, .int .i64 0, .int .i64 0], []⟩ 8 (by kernel_rfl) (by kernel_rfl) (by kernel_rfl) (by kernel_rfl)) ?_
  intro W base args ds gs before hval0 hW _ _ _
  have hval : ∀ (j : Nat) t v, Try.f3.params[j]? = some t → args[j]? = some v → Value.okWide Try.prog W .any base t v := hval0
  have hW' := hW
  obtain ⟨p, q, hA0, hV, rfl, _, _⟩ := hW
  have hA : DataW.TrodAll enc Try.prog W 0 (fun _ => true) true Try.f3.params.toList args.toList ds p := hA0
  rw [Try.params3] at hA hval
  obtain ⟨v0, v1, v2, d0, d1, d2, p0, p1, p2, rfl, rfl, rfl, h0, h1, h2⟩ := trodAll_three hA
  obtain ⟨rfl, rfl⟩ := trodVars_none hV
  obtain ⟨A0, c0, z0, rfl, r0, _, _⟩ := open_rdI Try.underlying22 Try.underlying3 (by kernel_rfl) (hval 0 22 v0 rfl rfl) h0
  obtain ⟨a1, rfl, rfl, rfl, w1⟩ := open_int Try.underlying3 (hval 1 3 v1 rfl rfl) h1
  obtain ⟨a2, rfl, rfl, rfl, w2⟩ := open_int Try.underlying3 (hval 2 3 v2 rfl rfl) h2
  refine (walk A0 c0 z0 a1 a2 W r0).mono fun e W' ⟨he, hb⟩ => ?_
  subst he
  exact ⟨_, rfl, law_post (tb := 4) laidOut (by decide +kernel) rfl hW' rfl rfl rfl rfl Try.underlying4 hb⟩

theorem over : Rows.stableTellsRow.holds Try.pinned (OpenSpec.ofChange Rows.stableTellsSpec) :=
  OpenClaim.holds_of_wide 3 Try.f3 rfl rfl rfl rfl rfl rfl rfl ⟨rfl, rfl, rfl, rfl, rfl⟩ rfl rfl rfl rfl rfl (by kernel_rfl) Try.func3 (by kernel_rfl)
    (of_decide_eq_true (by kernel_rfl)) (by unfold Func.isWrapper; first | (rw [if_pos (by decide +kernel)]; kernel_rfl) | (rw [if_neg (by decide +kernel)]; exact ⟨rfl, rfl⟩))
    (fun os started H enc _ => lifted os started H enc)
theorem proved : Rows.StableTellsSaid := over
#print axioms proved
end Go.Proofs.Ytpnjodefnpphkaa.stableTells
