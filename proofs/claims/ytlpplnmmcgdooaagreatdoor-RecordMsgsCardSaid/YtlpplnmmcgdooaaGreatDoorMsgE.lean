/- msg.bare: a message with nothing but what its kind has. -/
import Derived.Test.YtlpplnmmcgdooaaGreatDoorMsgD
import Derived.BigRegion
namespace Go.Proofs.YtlpplnmmcgdooaaGreatDoor
open Go.RowKit Go.Sort Go.Lib

/-- Nothing but what the kind has. -/
def bareM (m : PM) : PM :=
  { k := m.k, fr := m.fr, id := if m.k = 10 then 0 else m.id, t := if m.k = 1 ∨ m.k = 2 ∨ m.k = 3 ∨ m.k = 5 ∨ m.k = 7 then m.t else 0, bal := if m.k = 3 ∨ m.k = 4 ∨ m.k = 6 ∨ m.k = 7 ∨ m.k = 8 then m.bal else 0, abal := if m.k = 7 then m.abal else 0, ph := if m.k = 7 then m.ph else 0,
    q := if m.k = 1 ∨ m.k = 3 ∨ m.k = 5 ∨ m.k = 6 ∨ m.k = 9 then m.q else 0, pay := if m.k = 1 ∨ m.k = 3 ∨ m.k = 5 ∨ m.k = 6 ∨ m.k = 9 then m.pay else ⟨#[]⟩, lo := if m.k = 10 then m.lo else 0, hi := if m.k = 10 then m.hi else 0,
    aA := if m.k = 10 then m.aA else none, aC := if m.k = 10 then m.aC else 0, ats := if m.k = 10 then m.ats else #[], mA := if m.k = 10 then m.mA else none, mC := if m.k = 10 then m.mC else 0, mks := if m.k = 10 then m.mks else #[], dn := if m.k = 10 then m.dn else 0 }
set_option maxRecDepth 100000 in
set_option maxHeartbeats 4000000 in
theorem bare1_any (m : PM) (w : World) (hk : m.k = 1) :
    Calls Tryz.prog 47 #[msgV m] w fun e w' => e = .returned (msgV (bareM m)) ∧ Below w.heap.size w w' := by
  have HV : Hid (msgV (bareM m) = .agg #[.int .i64 1, .int .i64 m.fr, .int .i64 m.id, .int .i64 m.t, .int .i64 0, .int .i64 0, .int .i64 0, .int .i64 m.q, .string m.pay, .int .i64 0, .int .i64 0, .slice none 0 0, .slice none 0 0, .int .i64 0]) := by show _ = _; unfold msgV bareM; simp [hk]
  rw [HV.out]
  unfold msgV
  rw [hk]
  clear hk HV
  go_enter Tryz.func47, Tryz.ntmps47
  go_wp2
  go_region
  all_goals go_wp2
  all_goals
    refine bodyPost_ret (v := .agg #[.int .i64 1, .int .i64 m.fr, .int .i64 m.id, .int .i64 m.t, .int .i64 0, .int .i64 0, .int .i64 0, .int .i64 m.q, .string m.pay, .int .i64 0, .int .i64 0, .slice none 0 0, .slice none 0 0, .int .i64 0]) (by simp [results, Tryz.results47, go_sem]) rfl ⟨rfl, ?_⟩
    first
    | exact belAlloc (belAlloc (bel1 w _) _) _
    | exact (belAlloc (belAlloc (bel1 w _) _) _).drew
set_option maxRecDepth 100000 in
set_option maxHeartbeats 4000000 in
theorem bare2_any (m : PM) (w : World) (hk : m.k = 2) :
    Calls Tryz.prog 47 #[msgV m] w fun e w' => e = .returned (msgV (bareM m)) ∧ Below w.heap.size w w' := by
  have HV : Hid (msgV (bareM m) = .agg #[.int .i64 2, .int .i64 m.fr, .int .i64 m.id, .int .i64 m.t, .int .i64 0, .int .i64 0, .int .i64 0, .int .i64 0, .string ⟨#[]⟩, .int .i64 0, .int .i64 0, .slice none 0 0, .slice none 0 0, .int .i64 0]) := by show _ = _; unfold msgV bareM; simp [hk]
  rw [HV.out]
  unfold msgV
  rw [hk]
  clear hk HV
  go_enter Tryz.func47, Tryz.ntmps47
  go_wp2
  all_goals
    refine bodyPost_ret (v := .agg #[.int .i64 2, .int .i64 m.fr, .int .i64 m.id, .int .i64 m.t, .int .i64 0, .int .i64 0, .int .i64 0, .int .i64 0, .string ⟨#[]⟩, .int .i64 0, .int .i64 0, .slice none 0 0, .slice none 0 0, .int .i64 0]) (by simp [results, Tryz.results47, go_sem]) rfl ⟨rfl, ?_⟩
    first
    | exact belAlloc (belAlloc (bel1 w _) _) _
    | exact (belAlloc (belAlloc (bel1 w _) _) _).drew
set_option maxRecDepth 100000 in
set_option maxHeartbeats 4000000 in
theorem bare3_any (m : PM) (w : World) (hk : m.k = 3) :
    Calls Tryz.prog 47 #[msgV m] w fun e w' => e = .returned (msgV (bareM m)) ∧ Below w.heap.size w w' := by
  have HV : Hid (msgV (bareM m) = .agg #[.int .i64 3, .int .i64 m.fr, .int .i64 m.id, .int .i64 m.t, .int .i64 m.bal, .int .i64 0, .int .i64 0, .int .i64 m.q, .string m.pay, .int .i64 0, .int .i64 0, .slice none 0 0, .slice none 0 0, .int .i64 0]) := by show _ = _; unfold msgV bareM; simp [hk]
  rw [HV.out]
  unfold msgV
  rw [hk]
  clear hk HV
  go_enter Tryz.func47, Tryz.ntmps47
  go_wp2
  go_region
  all_goals go_wp2
  all_goals
    refine bodyPost_ret (v := .agg #[.int .i64 3, .int .i64 m.fr, .int .i64 m.id, .int .i64 m.t, .int .i64 m.bal, .int .i64 0, .int .i64 0, .int .i64 m.q, .string m.pay, .int .i64 0, .int .i64 0, .slice none 0 0, .slice none 0 0, .int .i64 0]) (by simp [results, Tryz.results47, go_sem]) rfl ⟨rfl, ?_⟩
    first
    | exact belAlloc (belAlloc (bel1 w _) _) _
    | exact (belAlloc (belAlloc (bel1 w _) _) _).drew
set_option maxRecDepth 100000 in
set_option maxHeartbeats 4000000 in
theorem bare4_any (m : PM) (w : World) (hk : m.k = 4) :
    Calls Tryz.prog 47 #[msgV m] w fun e w' => e = .returned (msgV (bareM m)) ∧ Below w.heap.size w w' := by
  have HV : Hid (msgV (bareM m) = .agg #[.int .i64 4, .int .i64 m.fr, .int .i64 m.id, .int .i64 0, .int .i64 m.bal, .int .i64 0, .int .i64 0, .int .i64 0, .string ⟨#[]⟩, .int .i64 0, .int .i64 0, .slice none 0 0, .slice none 0 0, .int .i64 0]) := by show _ = _; unfold msgV bareM; simp [hk]
  rw [HV.out]
  unfold msgV
  rw [hk]
  clear hk HV
  go_enter Tryz.func47, Tryz.ntmps47
  go_wp2
  all_goals
    refine bodyPost_ret (v := .agg #[.int .i64 4, .int .i64 m.fr, .int .i64 m.id, .int .i64 0, .int .i64 m.bal, .int .i64 0, .int .i64 0, .int .i64 0, .string ⟨#[]⟩, .int .i64 0, .int .i64 0, .slice none 0 0, .slice none 0 0, .int .i64 0]) (by simp [results, Tryz.results47, go_sem]) rfl ⟨rfl, ?_⟩
    first
    | exact belAlloc (belAlloc (bel1 w _) _) _
    | exact (belAlloc (belAlloc (bel1 w _) _) _).drew
set_option maxRecDepth 100000 in
set_option maxHeartbeats 4000000 in
theorem bare5_any (m : PM) (w : World) (hk : m.k = 5) :
    Calls Tryz.prog 47 #[msgV m] w fun e w' => e = .returned (msgV (bareM m)) ∧ Below w.heap.size w w' := by
  have HV : Hid (msgV (bareM m) = .agg #[.int .i64 5, .int .i64 m.fr, .int .i64 m.id, .int .i64 m.t, .int .i64 0, .int .i64 0, .int .i64 0, .int .i64 m.q, .string m.pay, .int .i64 0, .int .i64 0, .slice none 0 0, .slice none 0 0, .int .i64 0]) := by show _ = _; unfold msgV bareM; simp [hk]
  rw [HV.out]
  unfold msgV
  rw [hk]
  clear hk HV
  go_enter Tryz.func47, Tryz.ntmps47
  go_wp2
  go_region
  all_goals go_wp2
  all_goals
    refine bodyPost_ret (v := .agg #[.int .i64 5, .int .i64 m.fr, .int .i64 m.id, .int .i64 m.t, .int .i64 0, .int .i64 0, .int .i64 0, .int .i64 m.q, .string m.pay, .int .i64 0, .int .i64 0, .slice none 0 0, .slice none 0 0, .int .i64 0]) (by simp [results, Tryz.results47, go_sem]) rfl ⟨rfl, ?_⟩
    first
    | exact belAlloc (belAlloc (bel1 w _) _) _
    | exact (belAlloc (belAlloc (bel1 w _) _) _).drew
set_option maxRecDepth 100000 in
set_option maxHeartbeats 4000000 in
theorem bare6_any (m : PM) (w : World) (hk : m.k = 6) :
    Calls Tryz.prog 47 #[msgV m] w fun e w' => e = .returned (msgV (bareM m)) ∧ Below w.heap.size w w' := by
  have HV : Hid (msgV (bareM m) = .agg #[.int .i64 6, .int .i64 m.fr, .int .i64 m.id, .int .i64 0, .int .i64 m.bal, .int .i64 0, .int .i64 0, .int .i64 m.q, .string m.pay, .int .i64 0, .int .i64 0, .slice none 0 0, .slice none 0 0, .int .i64 0]) := by show _ = _; unfold msgV bareM; simp [hk]
  rw [HV.out]
  unfold msgV
  rw [hk]
  clear hk HV
  go_enter Tryz.func47, Tryz.ntmps47
  go_wp2
  go_region
  all_goals go_wp2
  all_goals
    refine bodyPost_ret (v := .agg #[.int .i64 6, .int .i64 m.fr, .int .i64 m.id, .int .i64 0, .int .i64 m.bal, .int .i64 0, .int .i64 0, .int .i64 m.q, .string m.pay, .int .i64 0, .int .i64 0, .slice none 0 0, .slice none 0 0, .int .i64 0]) (by simp [results, Tryz.results47, go_sem]) rfl ⟨rfl, ?_⟩
    first
    | exact belAlloc (belAlloc (bel1 w _) _) _
    | exact (belAlloc (belAlloc (bel1 w _) _) _).drew
set_option maxRecDepth 100000 in
set_option maxHeartbeats 4000000 in
theorem bare7_any (m : PM) (w : World) (hk : m.k = 7) :
    Calls Tryz.prog 47 #[msgV m] w fun e w' => e = .returned (msgV (bareM m)) ∧ Below w.heap.size w w' := by
  have HV : Hid (msgV (bareM m) = .agg #[.int .i64 7, .int .i64 m.fr, .int .i64 m.id, .int .i64 m.t, .int .i64 m.bal, .int .i64 m.abal, .int .i64 m.ph, .int .i64 0, .string ⟨#[]⟩, .int .i64 0, .int .i64 0, .slice none 0 0, .slice none 0 0, .int .i64 0]) := by show _ = _; unfold msgV bareM; simp [hk]
  rw [HV.out]
  unfold msgV
  rw [hk]
  clear hk HV
  go_enter Tryz.func47, Tryz.ntmps47
  go_wp2
  go_region
  all_goals go_wp2
  all_goals
    refine bodyPost_ret (v := .agg #[.int .i64 7, .int .i64 m.fr, .int .i64 m.id, .int .i64 m.t, .int .i64 m.bal, .int .i64 m.abal, .int .i64 m.ph, .int .i64 0, .string ⟨#[]⟩, .int .i64 0, .int .i64 0, .slice none 0 0, .slice none 0 0, .int .i64 0]) (by simp [results, Tryz.results47, go_sem]) rfl ⟨rfl, ?_⟩
    first
    | exact belAlloc (belAlloc (bel1 w _) _) _
    | exact (belAlloc (belAlloc (bel1 w _) _) _).drew
set_option maxRecDepth 100000 in
set_option maxHeartbeats 4000000 in
theorem bare8_any (m : PM) (w : World) (hk : m.k = 8) :
    Calls Tryz.prog 47 #[msgV m] w fun e w' => e = .returned (msgV (bareM m)) ∧ Below w.heap.size w w' := by
  have HV : Hid (msgV (bareM m) = .agg #[.int .i64 8, .int .i64 m.fr, .int .i64 m.id, .int .i64 0, .int .i64 m.bal, .int .i64 0, .int .i64 0, .int .i64 0, .string ⟨#[]⟩, .int .i64 0, .int .i64 0, .slice none 0 0, .slice none 0 0, .int .i64 0]) := by show _ = _; unfold msgV bareM; simp [hk]
  rw [HV.out]
  unfold msgV
  rw [hk]
  clear hk HV
  go_enter Tryz.func47, Tryz.ntmps47
  go_wp2
  all_goals
    refine bodyPost_ret (v := .agg #[.int .i64 8, .int .i64 m.fr, .int .i64 m.id, .int .i64 0, .int .i64 m.bal, .int .i64 0, .int .i64 0, .int .i64 0, .string ⟨#[]⟩, .int .i64 0, .int .i64 0, .slice none 0 0, .slice none 0 0, .int .i64 0]) (by simp [results, Tryz.results47, go_sem]) rfl ⟨rfl, ?_⟩
    first
    | exact belAlloc (belAlloc (bel1 w _) _) _
    | exact (belAlloc (belAlloc (bel1 w _) _) _).drew
set_option maxRecDepth 100000 in
set_option maxHeartbeats 4000000 in
theorem bare9_any (m : PM) (w : World) (hk : m.k = 9) :
    Calls Tryz.prog 47 #[msgV m] w fun e w' => e = .returned (msgV (bareM m)) ∧ Below w.heap.size w w' := by
  have HV : Hid (msgV (bareM m) = .agg #[.int .i64 9, .int .i64 m.fr, .int .i64 m.id, .int .i64 0, .int .i64 0, .int .i64 0, .int .i64 0, .int .i64 m.q, .string m.pay, .int .i64 0, .int .i64 0, .slice none 0 0, .slice none 0 0, .int .i64 0]) := by show _ = _; unfold msgV bareM; simp [hk]
  rw [HV.out]
  unfold msgV
  rw [hk]
  clear hk HV
  go_enter Tryz.func47, Tryz.ntmps47
  go_wp2
  go_region
  all_goals go_wp2
  all_goals
    refine bodyPost_ret (v := .agg #[.int .i64 9, .int .i64 m.fr, .int .i64 m.id, .int .i64 0, .int .i64 0, .int .i64 0, .int .i64 0, .int .i64 m.q, .string m.pay, .int .i64 0, .int .i64 0, .slice none 0 0, .slice none 0 0, .int .i64 0]) (by simp [results, Tryz.results47, go_sem]) rfl ⟨rfl, ?_⟩
    first
    | exact belAlloc (belAlloc (bel1 w _) _) _
    | exact (belAlloc (belAlloc (bel1 w _) _) _).drew
set_option maxRecDepth 100000 in
set_option maxHeartbeats 4000000 in
theorem bare10_any (m : PM) (w : World) (hk : m.k = 10) :
    Calls Tryz.prog 47 #[msgV m] w fun e w' => e = .returned (msgV (bareM m)) ∧ Below w.heap.size w w' := by
  have HV : Hid (msgV (bareM m) = .agg #[.int .i64 10, .int .i64 m.fr, .int .i64 0, .int .i64 0, .int .i64 0, .int .i64 0, .int .i64 0, .int .i64 0, .string ⟨#[]⟩, .int .i64 m.lo, .int .i64 m.hi, .slice m.aA m.ats.size m.aC, .slice m.mA m.mks.size m.mC, .int .i64 m.dn]) := by show _ = _; unfold msgV bareM; simp [hk]
  rw [HV.out]
  unfold msgV
  rw [hk]
  clear hk HV
  go_enter Tryz.func47, Tryz.ntmps47
  go_wp2
  go_region
  all_goals go_wp2
  all_goals
    refine bodyPost_ret (v := .agg #[.int .i64 10, .int .i64 m.fr, .int .i64 0, .int .i64 0, .int .i64 0, .int .i64 0, .int .i64 0, .int .i64 0, .string ⟨#[]⟩, .int .i64 m.lo, .int .i64 m.hi, .slice m.aA m.ats.size m.aC, .slice m.mA m.mks.size m.mC, .int .i64 m.dn]) (by simp [results, Tryz.results47, go_sem]) rfl ⟨rfl, ?_⟩
    first
    | exact belAlloc (belAlloc (bel1 w _) _) _
    | exact (belAlloc (belAlloc (bel1 w _) _) _).drew
theorem bare_any (m : PM) (w : World) (h1 : 1 ≤ m.k) (h2 : m.k ≤ 10) :
    Calls Tryz.prog 47 #[msgV m] w fun e w' => e = .returned (msgV (bareM m)) ∧ Below w.heap.size w w' := by
  have : m.k = 1 ∨ m.k = 2 ∨ m.k = 3 ∨ m.k = 4 ∨ m.k = 5 ∨ m.k = 6 ∨ m.k = 7 ∨ m.k = 8 ∨ m.k = 9 ∨ m.k = 10 := by omega
  rcases this with h | h | h | h | h | h | h | h | h | h
  · exact bare1_any m w h
  · exact bare2_any m w h
  · exact bare3_any m w h
  · exact bare4_any m w h
  · exact bare5_any m w h
  · exact bare6_any m w h
  · exact bare7_any m w h
  · exact bare8_any m w h
  · exact bare9_any m w h
  · exact bare10_any m w h
end Go.Proofs.YtlpplnmmcgdooaaGreatDoor
