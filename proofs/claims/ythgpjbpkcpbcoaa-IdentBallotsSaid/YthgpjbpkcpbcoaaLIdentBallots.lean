/- The law IdentBallots returns true for every input, and changes nothing that lay there. No condition. -/
import Derived.Test.YthgpjbpkcpbcoaaIdentF
import Derived.Test.YthgpjbpkcpbcoaaIdentH
import Derived.Test.YthgpjbpkcpbcoaaOpen
namespace Go.Proofs.Ythgpjbpkcpbcoaa.identBallots
open Go.ChangeShapes Go.WideShapes Go.ChangeAt Go.RowKit

instance (w : World) : Inhabited (ExtW w) := ⟨⟨w, Below.refl _ _⟩⟩
theorem next_no {b s n : Int} (h : nextE b s n ≠ 0) : nextN b s n = 0 := by
  unfold nextE at h; unfold nextN
  split at h
  · rw [if_pos (by assumption)]
  · rw [if_neg (by assumption)]
    split at h
    · rw [if_pos (by assumption)]
    · exact absurd rfl h
theorem next_ok {b s n : Int} (h : nextE b s n = 0) : 3 ≤ n ∧ n ≤ 9 ∧ 1 ≤ s ∧ s ≤ n ∧ 0 ≤ b ∧ b ≤ 1000000 ∧ cand (big b n) s n ≤ 1000000 ∧ nextN b s n = cand (big b n) s n := by
  unfold nextE at h; unfold nextN
  split at h
  · cases h
  · rw [if_neg (by assumption)]
    split at h
    · cases h
    · rw [if_neg (by assumption)]
      refine ⟨by omega, by omega, by omega, by omega, by omega, by omega, by omega, rfl⟩

set_option maxHeartbeats 2000000 in
theorem walk_no (a0 a1 s0 s1 : Int) (w : World) (h : nextE a0 s0 a1 ≠ 0 ∨ nextE a0 s1 a1 ≠ 0) :
    Calls Try.prog 7 #[.int .i64 a0, .int .i64 a1, .agg #[.int .i64 s0, .int .i64 s1]] w fun e w' => e = .returned (.bool true) ∧ Below w.heap.size w w' := by
  by_cases h0 : nextE a0 s0 a1 = 0
  · have h1 : nextE a0 s1 a1 ≠ 0 := by rcases h with h | h; exact absurd h0 h; exact h
    have q1 : (nextE a0 s1 a1 != 0) = true := by simp [h1]
    clear h h1
    go_enter Try.func7, Try.ntmps7
    go_wp2_with fail
    refine (Next_any _ _ _ _).mono ?_
    rintro e w1 ⟨rfl, hb1⟩
    have c1 : w1.cell? ⟨w.heap.size, 1, none⟩ = some (.int .i64 s1) := (hb1.cell (p := ⟨w.heap.size, 1, none⟩) (by simp)).trans (cell_new w _ _ 1)
    go_wp2_with fail
    refine (Next_any _ _ _ _).mono ?_
    rintro e w2 ⟨rfl, hb2⟩
    go_wp2_with (go_at_call 14; refine (awake_any _).mono ?_; rintro e w3 ⟨rfl, hb3⟩)
    go_ret
    exact ⟨rfl, belStep (belStep (belStep (bel1 _ _) hb1) hb2) hb3⟩
  · have n0 := next_no h0
    have q0 : (nextE a0 s0 a1 != 0) = true := by simp [h0]
    clear h h0
    go_enter Try.func7, Try.ntmps7
    go_wp2_with fail
    refine (Next_any _ _ _ _).mono ?_
    rintro e w1 ⟨rfl, hb1⟩
    have c1 : w1.cell? ⟨w.heap.size, 1, none⟩ = some (.int .i64 s1) := (hb1.cell (p := ⟨w.heap.size, 1, none⟩) (by simp)).trans (cell_new w _ _ 1)
    go_wp2_with fail
    refine (Next_any _ _ _ _).mono ?_
    rintro e w2 ⟨rfl, hb2⟩
    go_wp2_with (go_at_call 14; refine (awake_any _).mono ?_; rintro e w3 ⟨rfl, hb3⟩)
    go_ret
    exact ⟨rfl, belStep (belStep (belStep (bel1 _ _) hb1) hb2) hb3⟩

theorem firstS_no {b n : Int} (h : n < b) : firstS b n = false := by unfold firstS; rw [decide_eq_false_iff_not]; omega
theorem firstS_yes {b n : Int} (h1 : 3 ≤ n) (h2 : n ≤ 9) (h3 : 1 ≤ b) (h4 : b ≤ n) : firstS b n = true := by unfold firstS; simp; omega
set_option maxHeartbeats 4000000 in
set_option maxRecDepth 100000 in
theorem walk_yes (a0 n s0 s1 a bb : Int) (w : World) (e0 : nextE a0 s0 n = 0) (e1 : nextE a0 s1 n = 0) (N0 : nextN a0 s0 n = a) (N1 : nextN a0 s1 n = bb) (n1 : 3 ≤ n) (n2 : n ≤ 9) (b1 : 0 ≤ a0) (b2 : a0 ≤ 1000000)
    (k1 : a0 < a) (k2 : a ≤ 1000000) (k3 : n < a) (own : owner a n = s0) (iff : a = bb ↔ s0 = s1) (k4 : a - n ≤ big a0 n) (HL : Hid (∀ x, a0 < x → x < a → n < x → owner x n ≠ s0)) :
    Calls Try.prog 7 #[.int .i64 a0, .int .i64 n, .agg #[.int .i64 s0, .int .i64 s1]] w fun e w' => e = .returned (.bool true) ∧ Below w.heap.size w w' := by
  have fa := firstS_no k3
  have hsame : (a == bb) = (s0 == s1) := by rw [Bool.eq_iff_iff]; simpa using iff
  have K4 := Lib.hid k4
  clear iff k4
  go_enter Try.func7, Try.ntmps7
  go_wp2_with fail
  refine (Next_any _ _ _ _).mono ?_
  rintro e w1 ⟨rfl, hb1⟩
  have c1 : w1.cell? ⟨w.heap.size, 1, none⟩ = some (.int .i64 s1) := (hb1.cell (p := ⟨w.heap.size, 1, none⟩) (by simp)).trans (cell_new w _ _ 1)
  have c0 : w1.cell? ⟨w.heap.size, 0, none⟩ = some (.int .i64 s0) := (hb1.cell (p := ⟨w.heap.size, 0, none⟩) (by simp)).trans (cell_new w _ _ 0)
  have hz1 : w.heap.size < w1.heap.size := by have := hb1.size; simp at this; omega
  go_wp2_with fail
  refine (Next_any _ _ _ _).mono ?_
  rintro e w2 ⟨rfl, hb2⟩
  have c1' := (hb2.cell (p := ⟨w.heap.size, 1, none⟩) hz1).trans c1
  have c0' := (hb2.cell (p := ⟨w.heap.size, 0, none⟩) hz1).trans c0
  have hz2 : w.heap.size < w2.heap.size := Nat.lt_of_lt_of_le hz1 hb2.size
  clear c0 c1
  have d1 := fun p => ExtW.cell (w := w2) (a := ⟨w.heap.size, 1, none⟩) hz2 c1' p
  have d0 := fun p => ExtW.cell (w := w2) (a := ⟨w.heap.size, 0, none⟩) hz2 c0' p
  have HB : Hid (Below w.heap.size w w2) := belStep (belStep (bel1 _ _) hb1) hb2
  go_wp2_with fail
  refine wp_region_ext (by kernel_rfl) (by kernel_rfl) ?_
  repeat (first
    | go_big_quiet_step ((first | (go_at_call 22; exact Calls.ext_of (Owner_any _ _ _)) | (go_at_call 24; exact Calls.ext_same (First_any _ _ _))))
    | quiet_step ((first | (go_at_call 22; exact Calls.ext_of (Owner_any _ _ _)) | (go_at_call 24; exact Calls.ext_same (First_any _ _ _)))))
  refine wpQuiet_nil ?_
  intro w' hw'
  obtain ⟨⟨W, hbW⟩, hw''⟩ := hw'
  have hw3 : w' = W := hw''
  subst hw3
  have HBW : Hid (Below w.heap.size w w') := belStep HB.out hbW
  have x0 := (hbW.cell (p := ⟨w.heap.size, 0, none⟩) hz2).trans c0'
  have hz3 : w.heap.size < w'.heap.size := Nat.lt_of_lt_of_le hz2 hbW.size
  have k5 : a - n ≤ max a0 n := by have := K4.out; unfold big at this; split at this <;> omega
  clear d0 d1 c0' c1' hw'' hbW HB hb1 hb2
  go_wp2
  go_loopw [11] (fun v wr => ∃ x : Int, v = .int .i64 x ∧ a0 ≤ x ∧ x < a ∧ a - n ≤ x ∧ Below w'.heap.size w' wr) (fun v _ => (intOf v).toNat)
  case atStart => exact ⟨a - 1, rfl, by omega, by omega, by omega, Below.refl _ _⟩
  case round =>
    obtain ⟨x, rfl, x1, x2, x3, hbr⟩ := hrel
    by_cases hx : a0 < x ∧ a - n < x
    · obtain ⟨hx1, hx2⟩ := hx
      have y0 := (hbr.cell (p := ⟨w.heap.size, 0, none⟩) hz3).trans x0
      have hz4 : w.heap.size < wr.heap.size := Nat.lt_of_lt_of_le hz3 hbr.size
      have d0 := fun p => ExtW.cell (w := wr) (a := ⟨w.heap.size, 0, none⟩) hz4 y0 p
      by_cases ho : owner x n = s0
      · have hxn : x ≤ n := by
          rcases Int.lt_or_le n x with h | h
          · exact absurd ho (HL.out x hx1 x2 h)
          · exact h
        have fx := firstS_yes n1 n2 (show 1 ≤ x by omega) hxn
        go_wp2_with fail
        refine wp_region_ext (by kernel_rfl) (by kernel_rfl) ?_
        repeat (first
          | go_big_quiet_step ((first | (go_at_call 22; exact Calls.ext_of (Owner_any _ _ _)) | (go_at_call 24; exact Calls.ext_same (First_any _ _ _))))
          | quiet_step ((first | (go_at_call 22; exact Calls.ext_of (Owner_any _ _ _)) | (go_at_call 24; exact Calls.ext_same (First_any _ _ _)))))
        refine wpQuiet_nil ?_
        intro w5 hw'
        obtain ⟨⟨W, hbW⟩, hw''⟩ := hw'
        have hw3 : w5 = W := hw''
        subst hw3
        clear d0 y0 hw''
        go_wp2
        go_roundw
        case rel => exact ⟨x - 1, rfl, by omega, by omega, by omega, hbr.trans (hbW.mono hbr.size)⟩
        case measure => simp [intOf]; omega
      · have hoB : (owner x n == s0) = false := by simpa using ho
        clear ho
        go_wp2_with fail
        refine wp_region_ext (by kernel_rfl) (by kernel_rfl) ?_
        repeat (first
          | go_big_quiet_step ((first | (go_at_call 22; exact Calls.ext_of (Owner_any _ _ _)) | (go_at_call 24; exact Calls.ext_same (First_any _ _ _))))
          | quiet_step ((first | (go_at_call 22; exact Calls.ext_of (Owner_any _ _ _)) | (go_at_call 24; exact Calls.ext_same (First_any _ _ _)))))
        refine wpQuiet_nil ?_
        intro w5 hw'
        obtain ⟨⟨W, hbW⟩, hw''⟩ := hw'
        have hw3 : w5 = W := hw''
        subst hw3
        clear d0 y0 hw''
        go_wp2
        go_roundw
        case rel => exact ⟨x - 1, rfl, by omega, by omega, by omega, hbr.trans (hbW.mono hbr.size)⟩
        case measure => simp [intOf]; omega
    · have hx' : x ≤ a0 ∨ x ≤ a - n := by omega
      have HX := Lib.hid hx'
      clear hx hx'
      go_wp2_with (go_at_call 14; refine (awake_any _).mono ?_; rintro e w6 ⟨rfl, hb6⟩)
      all_goals first
        | (exfalso; have := HX.out; omega)
        | (go_ret; exact ⟨rfl, belStep (belStep HBW.out hbr) hb6⟩)
theorem walk (a0 a1 s0 s1 : Int) (w : World) :
    Calls Try.prog 7 #[.int .i64 a0, .int .i64 a1, .agg #[.int .i64 s0, .int .i64 s1]] w fun e w' => e = .returned (.bool true) ∧ Below w.heap.size w w' := by
  by_cases h : nextE a0 s0 a1 ≠ 0 ∨ nextE a0 s1 a1 ≠ 0
  · exact walk_no a0 a1 s0 s1 w h
  · have e0 : nextE a0 s0 a1 = 0 := by rcases Classical.em (nextE a0 s0 a1 = 0) with h' | h'; exact h'; exact absurd (Or.inl h') h
    have e1 : nextE a0 s1 a1 = 0 := by rcases Classical.em (nextE a0 s1 a1 = 0) with h' | h'; exact h'; exact absurd (Or.inr h') h
    obtain ⟨n1, n2, s1a, s1b, b1, b2, k2, N0⟩ := next_ok e0
    obtain ⟨_, _, s2a, s2b, _, _, k2', N1⟩ := next_ok e1
    obtain ⟨o0, l0, u0⟩ := cand_spec (big a0 a1) s0 a1 n1 n2 s1a s1b
    obtain ⟨o1, l1, u1⟩ := cand_spec (big a0 a1) s1 a1 n1 n2 s2a s2b
    have hbig : a0 ≤ big a0 a1 ∧ a1 ≤ big a0 a1 ∧ (big a0 a1 = a1 ∨ big a0 a1 = a0) := by unfold big; split <;> omega
    refine walk_yes a0 a1 s0 s1 _ _ w e0 e1 N0 N1 n1 n2 b1 b2 (by omega) k2 (by omega) ?_ ?_ (by omega) ?_
    · rw [owner_in n1 n2 (by omega) k2]; exact o0
    · constructor
      · intro h; rw [← o0, ← o1, h]
      · intro h; rw [h]
    · intro x h1 h2 h3 h4
      rw [owner_in n1 n2 (by omega) (by omega)] at h4
      exact cand_least (big a0 a1) s0 a1 x n1 n2 (by omega) h2 h4

set_option maxRecDepth 100000 in
theorem lifted (os : Os) (started : os.Started) (H : Type) (enc : TypeId × Value → H) :
    ReturnsInHanded {} Try.checked os 7 .any (Rows.identBallotsSpec.pre6 enc Try.prog Try.f7 Rows.identBallotsRow.domain false) (Rows.identBallotsSpec.post enc Try.prog Try.f7 false true false false) := by
  refine returnsInHanded_of_change_sized (C := Try.checked) own started (by kernel_rfl) Try.func7
    (ChangeSpec.witness6 (enc := enc) (C := Try.checked) false ⟨#[], #[.int .i64 0, .int .i64 0, .agg #[.int .i64 0, .int .i64 0]], []⟩ 8 (by kernel_rfl) (by kernel_rfl) (by kernel_rfl) (by kernel_rfl)) ?_
  intro W base args ds gs before hval0 hW _ _ _
  have hval : ∀ (j : Nat) t v, Try.f7.params[j]? = some t → args[j]? = some v → Value.okWide Try.prog W .any base t v := hval0
  have hW' := hW
  obtain ⟨p, q, hA0, hV, rfl, _, _⟩ := hW
  have hA : DataW.TrodAll enc Try.prog W 0 (fun _ => true) true Try.f7.params.toList args.toList ds p := hA0
  rw [Try.params7] at hA hval
  obtain ⟨v0, v1, v2, d0, d1, d2, p0, p1, p2, rfl, rfl, rfl, h0, h1, h2⟩ := trodAll_three hA
  obtain ⟨rfl, rfl⟩ := trodVars_none hV
  obtain ⟨a0, rfl, rfl, rfl, w0⟩ := open_int Try.underlying3 (hval 0 3 v0 rfl rfl) h0
  obtain ⟨a1, rfl, rfl, rfl, w1⟩ := open_int Try.underlying3 (hval 1 3 v1 rfl rfl) h1
  obtain ⟨s0, s1, rfl⟩ := open_arr2_int Try.underlying46 Try.underlying3 (by kernel_rfl) (by kernel_rfl) (hval 2 46 v2 rfl rfl) h2
  refine (walk a0 a1 s0 s1 W).mono fun e W' ⟨he, hb⟩ => ?_
  subst he
  exact ⟨_, rfl, law_post (tb := 4) laidOut (by decide +kernel) rfl hW' rfl rfl rfl rfl Try.underlying4 hb⟩

theorem over : Rows.identBallotsRow.holds Try.pinned (OpenSpec.ofChange Rows.identBallotsSpec) :=
  OpenClaim.holds_of_wide 7 Try.f7 rfl rfl rfl rfl rfl rfl rfl ⟨rfl, rfl, rfl, rfl, rfl⟩ rfl rfl rfl rfl rfl (by kernel_rfl) Try.func7 (by kernel_rfl)
    (of_decide_eq_true (by kernel_rfl)) (by unfold Func.isWrapper; first | (rw [if_pos (by decide +kernel)]; kernel_rfl) | (rw [if_neg (by decide +kernel)]; exact ⟨rfl, rfl⟩))
    (fun os started H enc _ => lifted os started H enc)
theorem proved : Rows.IdentBallotsSaid := over
#print axioms proved
end Go.Proofs.Ythgpjbpkcpbcoaa.identBallots
