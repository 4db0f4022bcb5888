/- The law StableMost returns true for every input, and changes nothing that lay there. No condition. -/
import Derived.Test.YtpnjodefnpphkaaStableM
import Derived.Test.YtpnjodefnpphkaaOpenI
namespace Go.Proofs.Ytpnjodefnpphkaa.stableMost
open Go.ChangeShapes Go.WideShapes Go.ChangeAt Go.RowKit

theorem bits_high {x n j : Nat} (h : x < 2 ^ n) (hj : n ≤ j) : x.testBit j = false :=
  Nat.testBit_lt_two_pow (Nat.lt_of_lt_of_le h (Nat.pow_le_pow_right (by decide) hj))
theorem who_bit (d : Array Int) (t : Int) : ∀ (k i : Nat), (whoN d t k).testBit i = decide (i < k ∧ i < 9 ∧ t ≤ d[i]!)
  | 0, i => by simp [whoN]
  | k + 1, i => by
    have hlt := (whoN_lt d t k).1
    unfold whoN
    by_cases hc : k < 9 ∧ t ≤ d[k]!
    · rw [if_pos hc, Nat.add_comm]
      rcases Nat.lt_trichotomy i k with h | h | h
      · rw [Nat.testBit_two_pow_add_gt h, who_bit d t k i]
        simp only [decide_eq_decide]; omega
      · subst h
        rw [Nat.testBit_two_pow_add_eq, bits_high hlt (Nat.le_refl _)]
        simp [hc]
      · have h2 : 2 ^ k + whoN d t k < 2 ^ (k + 1) := by rw [Nat.pow_succ]; omega
        rw [bits_high h2 h]
        symm; rw [decide_eq_false_iff_not]; omega
    · rw [if_neg hc, Nat.add_zero, who_bit d t k i]
      simp only [decide_eq_decide]
      constructor
      · rintro ⟨h1, h2, h3⟩; exact ⟨by omega, h2, h3⟩
      · rintro ⟨h1, h2, h3⟩
        refine ⟨?_, h2, h3⟩
        rcases Nat.lt_or_ge i k with h | h
        · exact h
        · obtain rfl : i = k := by omega
          exact absurd ⟨h2, h3⟩ hc
theorem pc_who (d : Array Int) (t : Int) (n : Nat) (hn : n ≤ 9) : ∀ j, j ≤ n → pcN (whoN d t n) j = manyN d t j
  | 0, _ => rfl
  | j + 1, hj => by
    rw [pcN, manyN, pc_who d t n hn j (by omega), who_bit]
    congr 1
    by_cases h : t ≤ d[j]!
    · rw [if_pos h, if_pos (by simp; omega)]
    · rw [if_neg h, if_neg (by simp; omega)]
theorem pc_high (x n : Nat) (h : x < 2 ^ n) : ∀ k, pcN x (n + k) = pcN x n
  | 0 => rfl
  | k + 1 => by rw [show n + (k + 1) = (n + k) + 1 by omega, pcN, pc_high x n h k, bits_high h (by omega)]; rfl
theorem pc_nine {x n : Nat} (h : x < 2 ^ n) (hn : n ≤ 9) : pcN x 9 = pcN x n := by
  have := pc_high x n h (9 - n); rwa [show n + (9 - n) = 9 by omega] at this
theorem pc_apart (a b : Nat) : ∀ k, (∀ i, i < k → ¬ (a.testBit i = true ∧ b.testBit i = true)) → pcN a k + pcN b k ≤ k
  | 0, _ => Nat.le_refl _
  | k + 1, h => by
    have h1 := pc_apart a b k (fun i hi => h i (by omega))
    have h2 := h k (by omega)
    unfold pcN
    cases ha : a.testBit k <;> cases hb : b.testBit k <;> simp [ha, hb] at h2 ⊢ <;> omega
theorem and_mask (o : Int) (m : Nat) (hm : m ≤ 511) : ∃ s : Nat, bits .and .i64 o (m : Int) = (s : Int) ∧ s ≤ m := by
  refine ⟨(BitVec.ofInt 64 o).toNat &&& m, ?_, Nat.and_le_right⟩
  have hx : (BitVec.ofInt 64 o).toNat &&& m ≤ m := Nat.and_le_right
  show IntKind.i64.wrap ((BitVec.ofInt 64 o &&& BitVec.ofInt 64 (m : Int)).toNat : Int) = _
  rw [BitVec.toNat_and, nat_of_bv m (by omega), IntKind.wrap_i64]
  omega
set_option maxHeartbeats 4000000 in
set_option maxRecDepth 100000 in
theorem walk (A : Option Addr) (c : Nat) (d : Array Int) (n o : Int) (w : World) (h : RdI w.heap.size w A d) :
    Calls Try.prog 10 #[.slice A d.size c, .int .i64 n, .int .i64 o] w fun e w' => e = .returned (.bool true) ∧ Below w.heap.size w w' := by
  by_cases hd : 9 < d.size
  · have hz : (9 : Int) < (d.size : Int) := by omega
    go_enter Try.func10, Try.ntmps10
    go_wp2_with (go_at_call 11; refine (awake17_any _).mono ?_; rintro e w3 ⟨rfl, hb3⟩)
    go_ret
    exact ⟨rfl, hb3⟩
  have hz : decide ((9 : Int) < (d.size : Int)) = false := by simp; omega
  have hd' : d.size ≤ 9 := by omega
  clear hd
  by_cases hm : marksE d n = 0
  case neg =>
    have hm1 : (marksE d n != 0) = true := by simpa using hm
    clear hm
    go_enter Try.func10, Try.ntmps10
    go_wp2_with fail
    refine (sCheck_any _ _ d _ _ _ h (by omega)).mono ?_
    rintro e w1 ⟨rfl, hb1⟩
    go_wp2_with (go_at_call 11; refine (awake17_any _).mono ?_; rintro e w3 ⟨rfl, hb3⟩)
    go_ret
    exact ⟨rfl, belStep hb1 hb3⟩
  case pos =>
    obtain ⟨n1, n2, n3, n4, n5⟩ := marks_size hm
    obtain ⟨hk0, ho, hmem, s1, s2⟩ := ofS_spec hm
    clear ho hk0
    obtain ⟨t0, t9⟩ := marks_all n5 _ hmem
    obtain rfl := n3
    have hm1 : (marksE d (d.size : Int) != 0) = false := by simp [hm]
    have hm2 : (mostN (d.size : Int) == 0) = false := by rw [n4]; simp; omega
    have S2 := s2 (ofS d d.size + 1) (by omega)
    have HM4 := Lib.hid n4
    clear hm hmem s2 n4 n5
    have hw1 := whoN_lt d (ofS d d.size) d.size
    have hw2 := whoN_lt d (ofS d d.size + 1) d.size
    have hc1 : mostN (d.size : Int) ≤ pcN (whoN d (ofS d d.size) d.size) 9 := by rw [pc_nine hw1.1 hd', pc_who d _ d.size hd' d.size (Nat.le_refl _)]; exact s1
    have hc2 : (pcN (whoN d (ofS d d.size + 1) d.size) 9 : Int) < mostN (d.size : Int) := by rw [pc_nine hw2.1 hd', pc_who d _ d.size hd' d.size (Nat.le_refl _)]; exact S2
    have hp : (2 : Int) ^ d.size = ((2 ^ d.size : Nat) : Int) := by push_cast; rfl
    have hp8 : 2 ^ 3 ≤ 2 ^ d.size := Nat.pow_le_pow_right (by decide) (by omega)
    have hp9 : 2 ^ d.size ≤ 2 ^ 9 := Nat.pow_le_pow_right (by decide) (by omega)
    rw [show (2 : Nat) ^ 3 = 8 by decide] at hp8
    rw [show (2 : Nat) ^ 9 = 512 by decide] at hp9
    have HWB := Lib.hid (who_bit d (ofS d d.size) d.size)
    have HPN := Lib.hid (fun (s : Nat) (hs : s < 2 ^ d.size) => pc_nine hs hd')
    have HPA := Lib.hid (fun (s : Nat) => pc_apart s (whoN d (ofS d d.size) d.size) d.size)
    have HPW := Lib.hid (pc_nine hw1.1 hd')
    have w1a := hw1.1
    have w1b := hw1.2
    have w2a := hw2.1
    have w2b := hw2.2
    clear s1 S2 hw1 hw2
    generalize hP : 2 ^ d.size = p at *
    obtain ⟨s, hs, hsm⟩ := and_mask o (p - 1) (by omega)
    rw [show ((p - 1 : Nat) : Int) = (p : Int) - 1 by omega] at hs
    clear hP
    generalize hT : ofS d d.size = T at *
    have HT := Lib.hid hT; clear hT
    go_enter Try.func10, Try.ntmps10
    go_wp2_with fail
    refine (sCheck_any _ _ d _ _ _ h (by omega)).mono ?_
    rintro e w1 ⟨rfl, hb1⟩
    have r1 := Lib.hid ((h.below hb1).mono hb1.size)
    go_wp2_with fail
    refine (Most_any _ _).mono ?_
    rintro e w1' ⟨rfl, rfl⟩
    go_wp2_with fail
    refine (Of_any _ _ d _ _ r1.out (by omega)).mono ?_
    rintro e w2 ⟨rfl, hb2⟩
    have r2 := Lib.hid ((r1.out.below hb2).mono hb2.size)
    rw [HT.out]
    go_wp2_with fail
    refine (Who_any _ _ d _ _ r2.out (by omega)).mono ?_
    rintro e w3 ⟨rfl, hb3⟩
    have r3 := Lib.hid ((r2.out.below hb3).mono hb3.size)
    go_wp2_with fail
    refine (Who_any _ _ d _ _ r3.out (by omega)).mono ?_
    rintro e w4 ⟨rfl, hb4⟩
    have r4 := Lib.hid ((r3.out.below hb4).mono hb4.size)
    generalize whoN d T d.size = W at *
    generalize whoN d (T + 1) d.size = M at *
    have g1 : decide ((pcN W 9 : Int) < mostN (d.size : Int)) = false := by simp; omega
    have g2 : decide (mostN (d.size : Int) ≤ (pcN M 9 : Int)) = false := by simp; omega
    have g3 : decide ((p : Int) - 1 < (W : Int)) = false := by simp; omega
    go_wp2_with fail
    refine (Count_any W _ (by omega)).mono ?_
    rintro e w5' ⟨rfl, rfl⟩
    go_wp2_with fail
    refine (Most_any _ _).mono ?_
    rintro e w5' ⟨rfl, rfl⟩
    go_wp2_with fail
    refine (Count_any M _ (by omega)).mono ?_
    rintro e w5' ⟨rfl, rfl⟩
    go_wp2_with fail
    refine (Most_any _ _).mono ?_
    rintro e w5' ⟨rfl, rfl⟩
    go_wp2_with fail
    refine (Count_any s _ (by omega)).mono ?_
    rintro e w5' ⟨rfl, rfl⟩
    go_wp2_with fail
    refine (Most_any _ _).mono ?_
    rintro e w5' ⟨rfl, rfl⟩
    by_cases hcs : (pcN s 9 : Int) < mostN (d.size : Int)
    · go_wp2_with (go_at_call 11; refine (awake17_any _).mono ?_; rintro e w6 ⟨rfl, hb6⟩)
      go_ret
      exact ⟨rfl, belStep (belStep (belStep (belStep (belStep hb1 hb2) hb3) hb4) hb6) (Below.refl _ _)⟩
    · have hcs' : decide ((pcN s 9 : Int) < mostN (d.size : Int)) = false := by simp; omega
      have HCS := Lib.hid hcs
      clear hcs
      go_wp2
      go_loop [12] (fun v => ∃ k : Nat, k ≤ d.size ∧ v = .int .i64 ((k : Int) + 1) ∧ ∀ i, i < k → ¬ (s.testBit i = true ∧ W.testBit i = true)) (fun v => d.size + 1 - (intOf v).toNat)
      case atStart => exact ⟨0, Nat.zero_le _, rfl, fun i hi => absurd hi (by omega)⟩
      case round =>
        obtain ⟨k, hk, rfl, hi⟩ := hrel
        have HI := Lib.hid hi; clear hi
        by_cases hlt : k < d.size
        · obtain ⟨b, off, rfl, _, f⟩ := r4.out.at_ hlt
          have hkz : (k : Int) + 1 ≤ (d.size : Int) := by omega
          have c1 := fun w => Has_any s k w (by omega) (by omega)
          have c2 := fun w => Has_any W k w (by omega) (by omega)
          cases b1 : s.testBit k
          · rw [b1] at c1
            have C1 := Lib.hid c1
            have HB1 := Lib.hid b1
            clear c1 c2 b1
            go_wp2_with (go_at_call 43; refine (C1.out _).mono ?_; rintro e w6 ⟨rfl, rfl⟩)
            go_round
            case rel => exact ⟨k + 1, by omega, by go_num, fun i hi => by
              rcases Nat.lt_or_ge i k with h' | h'
              · exact HI.out i h'
              · obtain rfl : i = k := by omega
                rw [HB1.out]; simp⟩
            case measure => simp [intOf]; omega
          · cases b2 : W.testBit k
            · rw [b1] at c1
              rw [b2] at c2
              have C1 := Lib.hid c1
              have C2 := Lib.hid c2
              have HB2 := Lib.hid b2
              clear c1 c2 b1 b2
              go_wp2_with fail
              refine (C1.out _).mono ?_
              rintro e w6 ⟨rfl, rfl⟩
              go_wp2_with fail
              refine (C2.out _).mono ?_
              rintro e w6 ⟨rfl, rfl⟩
              go_wp2
              go_round
              case rel => exact ⟨k + 1, by omega, by go_num, fun i hi => by
                rcases Nat.lt_or_ge i k with h' | h'
                · exact HI.out i h'
                · obtain rfl : i = k := by omega
                  rw [HB2.out]; simp⟩
              case measure => simp [intOf]; omega
            · have hT : T ≤ d[k]! := by
                have := HWB.out k
                rw [b2] at this
                exact (of_decide_eq_true this.symm).2.2
              generalize d[k]! = x at f hT
              rw [b1] at c1
              rw [b2] at c2
              have C1 := Lib.hid c1
              have C2 := Lib.hid c2
              clear c1 c2 b1 b2
              go_wp2_with fail
              refine (C1.out _).mono ?_
              rintro e w6 ⟨rfl, rfl⟩
              go_wp2_with fail
              refine (C2.out _).mono ?_
              rintro e w6 ⟨rfl, rfl⟩
              go_wp2_with (go_at_call 11; refine (awake17_any _).mono ?_; rintro e w6 ⟨rfl, hb6⟩)
              go_ret
              exact ⟨rfl, belStep (belStep (belStep (belStep hb1 hb2) hb3) hb4) hb6⟩
        · exfalso
          have h1 := HPA.out s fun i hi => HI.out i (by omega)
          have h2 := HPN.out s (by omega)
          have h3 := HPW.out
          have h4 := HCS.out
          have h5 := HM4.out
          omega

set_option maxRecDepth 100000 in
theorem lifted (os : Os) (started : os.Started) (H : Type) (enc : TypeId × Value → H) :
    ReturnsInHanded {} Try.checked os 10 .any (Rows.stableMostSpec.pre6 enc Try.prog Try.f10 Rows.stableMostRow.domain false) (Rows.stableMostSpec.post enc Try.prog Try.f10 false true false false) := by
  refine returnsInHanded_of_change_sized (C := Try.checked) own started (by kernel_rfl) Try.func10
    (ChangeSpec.witness6 (enc := enc) (C := Try.checked) false ⟨#[], #[.slice none 0 0, .int .i64 0, .int .i64 0], []⟩ 8 (by kernel_rfl) (by kernel_rfl) (by kernel_rfl) (by kernel_rfl)) ?_
  intro W base args ds gs before hval0 hW _ _ _
  have hval : ∀ (j : Nat) t v, Try.f10.params[j]? = some t → args[j]? = some v → Value.okWide Try.prog W .any base t v := hval0
  have hW' := hW
  obtain ⟨p, q, hA0, hV, rfl, _, _⟩ := hW
  have hA : DataW.TrodAll enc Try.prog W 0 (fun _ => true) true Try.f10.params.toList args.toList ds p := hA0
  rw [Try.params10] at hA hval
  obtain ⟨v0, v1, v2, d0, d1, d2, p0, p1, p2, rfl, rfl, rfl, h0, h1, h2⟩ := trodAll_three hA
  obtain ⟨rfl, rfl⟩ := trodVars_none hV
  obtain ⟨A0, c0, z0, rfl, r0, _, _⟩ := open_rdI Try.underlying22 Try.underlying3 (by kernel_rfl) (hval 0 22 v0 rfl rfl) h0
  obtain ⟨a1, rfl, rfl, rfl, w1⟩ := open_int Try.underlying3 (hval 1 3 v1 rfl rfl) h1
  obtain ⟨a2, rfl, rfl, rfl, w2⟩ := open_int Try.underlying3 (hval 2 3 v2 rfl rfl) h2
  refine (walk A0 c0 z0 a1 a2 W r0).mono fun e W' ⟨he, hb⟩ => ?_
  subst he
  exact ⟨_, rfl, law_post (tb := 4) laidOut (by decide +kernel) rfl hW' rfl rfl rfl rfl Try.underlying4 hb⟩

theorem over : Rows.stableMostRow.holds Try.pinned (OpenSpec.ofChange Rows.stableMostSpec) :=
  OpenClaim.holds_of_wide 10 Try.f10 rfl rfl rfl rfl rfl rfl rfl ⟨rfl, rfl, rfl, rfl, rfl⟩ rfl rfl rfl rfl rfl (by kernel_rfl) Try.func10 (by kernel_rfl)
    (of_decide_eq_true (by kernel_rfl)) (by unfold Func.isWrapper; first | (rw [if_pos (by decide +kernel)]; kernel_rfl) | (rw [if_neg (by decide +kernel)]; exact ⟨rfl, rfl⟩))
    (fun os started H enc _ => lifted os started H enc)
theorem proved : Rows.StableMostSaid := over
#print axioms proved
end Go.Proofs.Ytpnjodefnpphkaa.stableMost
