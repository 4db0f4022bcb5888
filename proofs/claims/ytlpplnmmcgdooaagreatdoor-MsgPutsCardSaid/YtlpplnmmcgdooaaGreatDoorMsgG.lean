/- msg.Put: an unsound message. -/
import Derived.Test.YtlpplnmmcgdooaaGreatDoorMsgP
import Derived.Test.YtlpplnmmcgdooaaGreatDoorErrE
import Derived.Test.YtlpplnmmcgdooaaGreatDoorWrt
namespace Go.Proofs.YtlpplnmmcgdooaaGreatDoor
open Go.RowKit Nb

theorem chk_3 (m : PM) : chkM m = 0 ∨ chkM m = 2 ∨ chkM m = 30 := by
  unfold chkM
  split
  · exact Or.inr (Or.inr rfl)
  split
  · exact Or.inl rfl
  · exact Or.inr (Or.inl rfl)
/-- What msg.Put tells of an unsound message. -/
def PutBad (m : PM) (e : Ending) (w' : World) : Prop := ∃ v, e = .returned (.tuple #[.string ⟨#[]⟩, v]) ∧ ErrV w' [msgW] (chkM m) v
set_option maxRecDepth 100000 in
set_option maxHeartbeats 1000000 in
theorem mPutBad_any (m : PM) (w : World) (hm : RdM w m) (h0 : chkM m ≠ 0) :
    Calls Tryz.prog 10 #[msgV m] w fun e w' => PutBad m e w' ∧ Below w.heap.size w w' := by
  have HC0 := Lib.hid (fun W (h : Below w.heap.size w W) => Check_any m W (hm.next h))
  have hc := (chk_3 m).resolve_left h0
  unfold ChkP at HC0
  unfold PutBad
  simp only [if_neg h0] at HC0
  obtain ⟨c, hcc⟩ : ∃ c, chkM m = c := ⟨_, rfl⟩
  rw [hcc] at hc HC0 ⊢
  unfold msgV at HC0 ⊢
  clear hm h0 hcc
  rcases hc with rfl | rfl
  all_goals
    go_enter Tryz.func10, Tryz.ntmps10
    go_wp2_with fail
    refine (HC0.out _ (bel1 w _)).mono ?_
    rintro e w1 ⟨⟨v, rfl, hv⟩, hb1⟩
    have HV := Lib.hid hv
    have HB1 := Lib.hid (belStep (bel1 w _) hb1)
    have HI30 := Lib.hid (Is_any _ _ 30 v w1 hv (by decide))
    have HI2 := Lib.hid (Is_any _ _ 2 v w1 hv (by decide))
    clear hv hb1
    go_wp2_with (go_at_call 37; first | ((with_reducible refine HI30.out.mono ?_); rintro e w' ⟨rfl, rfl⟩) | ((with_reducible refine HI2.out.mono ?_); rintro e w' ⟨rfl, rfl⟩))
    go_ret2
    exact ⟨⟨v, rfl, HV.out⟩, HB1.out⟩
end Go.Proofs.YtlpplnmmcgdooaaGreatDoor
