/- The law IdentTurns returns true for every input, and changes nothing that lay there. No condition. -/
import Derived.Test.YthgpjbpkcpbcoaaIdentF
import Derived.Test.YthgpjbpkcpbcoaaIdentH
import Derived.Test.YthgpjbpkcpbcoaaLaw
namespace Go.Proofs.Ythgpjbpkcpbcoaa.identTurns
open Go.ChangeShapes Go.WideShapes Go.ChangeAt Go.RowKit

theorem first_yes {b n : Int} (h1 : 3 ≤ n) (h2 : n ≤ 9) (h3 : 1 ≤ b) (h4 : b ≤ n) : firstS b n = true := by unfold firstS; simp; omega
theorem first_no {b n : Int} (h : ¬ (3 ≤ n ∧ n ≤ 9 ∧ 1 ≤ b ∧ b ≤ n)) : firstS b n = false := by unfold firstS; rw [decide_eq_false_iff_not]; exact h
set_option maxHeartbeats 2000000 in
theorem walk (a0 a1 a2 : Int) (w : World) :
    Calls Try.prog 5 #[.int .i64 a0, .int .i64 a1, .int .i64 a2] w fun e w' => e = .returned (.bool true) ∧ Below w.heap.size w w' := by
  by_cases q1 : 3 ≤ a2
  case neg =>
    have f1 := first_no (b := a0) (n := a2) (by omega)
    have q1' : a2 < 3 := by omega
    clear q1
    go_enter Try.func5, Try.ntmps5
    go_wp2_with (first
      | (go_at_call 20; refine (Next_any _ _ _ _).mono ?_; rintro e w1 ⟨rfl, hb1⟩)
      | (go_at_call 21; refine (rNext_any _ _ _ _).mono ?_; rintro e w' ⟨rfl, rfl⟩)
      | (go_at_call 22; refine (Owner_any _ _ _).mono ?_; rintro e w2 ⟨rfl, hb2⟩)
      | (go_at_call 23; refine (rOwner_any _ _ _).mono ?_; rintro e w' ⟨rfl, rfl⟩)
      | (go_at_call 24; refine (First_any _ _ _).mono ?_; rintro e w' ⟨rfl, rfl⟩)
      | (go_at_call 14; refine (awake_any _).mono ?_; rintro e w3 ⟨rfl, hb3⟩))
    all_goals first
      | (exfalso; omega)
      | (go_ret; exact ⟨rfl, belStep (belStep hb1 hb2) hb3⟩)
  by_cases q2 : a2 ≤ 9
  case neg =>
    have f1 := first_no (b := a0) (n := a2) (by omega)
    have q2' : 9 < a2 := by omega
    clear q2
    go_enter Try.func5, Try.ntmps5
    go_wp2_with (first
      | (go_at_call 20; refine (Next_any _ _ _ _).mono ?_; rintro e w1 ⟨rfl, hb1⟩)
      | (go_at_call 21; refine (rNext_any _ _ _ _).mono ?_; rintro e w' ⟨rfl, rfl⟩)
      | (go_at_call 22; refine (Owner_any _ _ _).mono ?_; rintro e w2 ⟨rfl, hb2⟩)
      | (go_at_call 23; refine (rOwner_any _ _ _).mono ?_; rintro e w' ⟨rfl, rfl⟩)
      | (go_at_call 24; refine (First_any _ _ _).mono ?_; rintro e w' ⟨rfl, rfl⟩)
      | (go_at_call 14; refine (awake_any _).mono ?_; rintro e w3 ⟨rfl, hb3⟩))
    all_goals first
      | (exfalso; omega)
      | (go_ret; exact ⟨rfl, belStep (belStep hb1 hb2) hb3⟩)
  by_cases q3 : 1 ≤ a0
  case neg =>
    have f1 := first_no (b := a0) (n := a2) (by omega)
    have q3' : a0 < 1 := by omega
    clear q3
    go_enter Try.func5, Try.ntmps5
    go_wp2_with (first
      | (go_at_call 20; refine (Next_any _ _ _ _).mono ?_; rintro e w1 ⟨rfl, hb1⟩)
      | (go_at_call 21; refine (rNext_any _ _ _ _).mono ?_; rintro e w' ⟨rfl, rfl⟩)
      | (go_at_call 22; refine (Owner_any _ _ _).mono ?_; rintro e w2 ⟨rfl, hb2⟩)
      | (go_at_call 23; refine (rOwner_any _ _ _).mono ?_; rintro e w' ⟨rfl, rfl⟩)
      | (go_at_call 24; refine (First_any _ _ _).mono ?_; rintro e w' ⟨rfl, rfl⟩)
      | (go_at_call 14; refine (awake_any _).mono ?_; rintro e w3 ⟨rfl, hb3⟩))
    all_goals first
      | (exfalso; omega)
      | (go_ret; exact ⟨rfl, belStep (belStep hb1 hb2) hb3⟩)
  by_cases q4 : a0 ≤ a2
  case neg =>
    have f1 := first_no (b := a0) (n := a2) (by omega)
    have q4' : a2 < a0 := by omega
    clear q4
    go_enter Try.func5, Try.ntmps5
    go_wp2_with (first
      | (go_at_call 20; refine (Next_any _ _ _ _).mono ?_; rintro e w1 ⟨rfl, hb1⟩)
      | (go_at_call 21; refine (rNext_any _ _ _ _).mono ?_; rintro e w' ⟨rfl, rfl⟩)
      | (go_at_call 22; refine (Owner_any _ _ _).mono ?_; rintro e w2 ⟨rfl, hb2⟩)
      | (go_at_call 23; refine (rOwner_any _ _ _).mono ?_; rintro e w' ⟨rfl, rfl⟩)
      | (go_at_call 24; refine (First_any _ _ _).mono ?_; rintro e w' ⟨rfl, rfl⟩)
      | (go_at_call 14; refine (awake_any _).mono ?_; rintro e w3 ⟨rfl, hb3⟩))
    all_goals first
      | (exfalso; omega)
      | (go_ret; exact ⟨rfl, belStep (belStep hb1 hb2) hb3⟩)
  case pos =>
    have f1 := first_yes q1 q2 q3 q4
    go_enter Try.func5, Try.ntmps5
    go_wp2_with (first
      | (go_at_call 20; refine (Next_any _ _ _ _).mono ?_; rintro e w1 ⟨rfl, hb1⟩)
      | (go_at_call 21; refine (rNext_any _ _ _ _).mono ?_; rintro e w' ⟨rfl, rfl⟩)
      | (go_at_call 22; refine (Owner_any _ _ _).mono ?_; rintro e w2 ⟨rfl, hb2⟩)
      | (go_at_call 23; refine (rOwner_any _ _ _).mono ?_; rintro e w' ⟨rfl, rfl⟩)
      | (go_at_call 24; refine (First_any _ _ _).mono ?_; rintro e w' ⟨rfl, rfl⟩)
      | (go_at_call 14; refine (awake_any _).mono ?_; rintro e w3 ⟨rfl, hb3⟩))
    all_goals first
      | (exfalso; omega)
      | (go_ret; exact ⟨rfl, belStep (belStep hb1 hb2) hb3⟩)

set_option maxRecDepth 100000 in
theorem lifted (os : Os) (started : os.Started) (H : Type) (enc : TypeId × Value → H) :
    ReturnsInHanded {} Try.checked os 5 .any (Rows.identTurnsSpec.pre6 enc Try.prog Try.f5 Rows.identTurnsRow.domain false) (Rows.identTurnsSpec.post enc Try.prog Try.f5 false true false false) := by
  refine returnsInHanded_of_change_sized (C := Try.checked) own started (by kernel_rfl) Try.func5
    (ChangeSpec.witness6 (enc := enc) (C := Try.checked) false ⟨#[], #[.int .i64 0, .int .i64 0, .int .i64 0], []⟩ 8 (by kernel_rfl) (by kernel_rfl) (by kernel_rfl) (by kernel_rfl)) ?_
  intro W base args ds gs before hval0 hW _ _ _
  have hval : ∀ (j : Nat) t v, Try.f5.params[j]? = some t → args[j]? = some v → Value.okWide Try.prog W .any base t v := hval0
  have hW' := hW
  obtain ⟨p, q, hA0, hV, rfl, _, _⟩ := hW
  have hA : DataW.TrodAll enc Try.prog W 0 (fun _ => true) true Try.f5.params.toList args.toList ds p := hA0
  rw [Try.params5] at hA hval
  obtain ⟨v0, v1, v2, d0, d1, d2, p0, p1, p2, rfl, rfl, rfl, h0, h1, h2⟩ := trodAll_three hA
  obtain ⟨rfl, rfl⟩ := trodVars_none hV
  obtain ⟨a0, rfl, rfl, rfl, w0⟩ := open_int Try.underlying3 (hval 0 3 v0 rfl rfl) h0
  obtain ⟨a1, rfl, rfl, rfl, w1⟩ := open_int Try.underlying3 (hval 1 3 v1 rfl rfl) h1
  obtain ⟨a2, rfl, rfl, rfl, w2⟩ := open_int Try.underlying3 (hval 2 3 v2 rfl rfl) h2
  refine (walk a0 a1 a2 W).mono fun e W' ⟨he, hb⟩ => ?_
  subst he
  exact ⟨_, rfl, law_post (tb := 4) laidOut (by decide +kernel) rfl hW' rfl rfl rfl rfl Try.underlying4 hb⟩

theorem over : Rows.identTurnsRow.holds Try.pinned (OpenSpec.ofChange Rows.identTurnsSpec) :=
  OpenClaim.holds_of_wide 5 Try.f5 rfl rfl rfl rfl rfl rfl rfl ⟨rfl, rfl, rfl, rfl, rfl⟩ rfl rfl rfl rfl rfl (by kernel_rfl) Try.func5 (by kernel_rfl)
    (of_decide_eq_true (by kernel_rfl)) (by unfold Func.isWrapper; first | (rw [if_pos (by decide +kernel)]; kernel_rfl) | (rw [if_neg (by decide +kernel)]; exact ⟨rfl, rfl⟩))
    (fun os started H enc _ => lifted os started H enc)
theorem proved : Rows.IdentTurnsSaid := over
#print axioms proved
end Go.Proofs.Ythgpjbpkcpbcoaa.identTurns
