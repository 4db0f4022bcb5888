/- The law RangesAdd returns true for every input, and changes nothing that lay there. No condition. -/
import Derived.Test.YtpnjodefnpphkaaOpenR
import Derived.Test.YtpnjodefnpphkaaRangesS
namespace Go.Proofs.Ytpnjodefnpphkaa.rangesAdd
open Go.ChangeShapes Go.WideShapes Go.ChangeAt Go.RowKit Go.Deep Go.Sort

theorem rdz {W w : World} {A : Option Addr} {d : Array (Int × Int)} (h : RdK encR 2 W.heap.size W A d) (hb : Below W.heap.size W w) : RdK encR 2 w.heap.size w A d := (h.below hb).mono hb.size
theorem same_yes (A1 A2 : Option Addr) (c1 c2 : Nat) (d1 d2 : Array (Int × Int)) (w : World) (h1 : RdK encR 2 w.heap.size w A1 d1) (h2 : RdK encR 2 w.heap.size w A2 d2) (he : d1 = d2) (hm : d2.size ≤ 1000) :
    Calls Try.prog 32 #[.slice A1 d1.size c1, .slice A2 d2.size c2] w fun e w' => e = .returned (.bool true) ∧ Below w.heap.size w w' :=
  (r4Same_b A1 A2 c1 c2 d1 d2 w h1 h2 (by omega)).mono fun _ _ ⟨e, hb⟩ => ⟨by rw [e, sameR_yes he], hb⟩
set_option maxRecDepth 100000 in
set_option maxHeartbeats 8000000 in
theorem walk (A1 : Option Addr) (c1 : Nat) (d1 : Array (Int × Int)) (A2 : Option Addr) (c2 : Nat) (d2 : Array (Int × Int)) (n : Int) (w : World) (h1 : RdK encR 2 w.heap.size w A1 d1) (n1 : A1 = none → c1 = 0) (h2 : RdK encR 2 w.heap.size w A2 d2) (_n2 : A2 = none → c2 = 0) :
    Calls Try.prog 8 #[.slice A1 d1.size c1, .slice A2 d2.size c2, .int .i64 n] w fun e w' => e = .returned (.bool true) ∧ Below w.heap.size w w' := by
  have HN1 := Lib.hid n1
  clear n1
  by_cases hd : 200 < d1.size
  · have hz : (200 : Int) < (d1.size : Int) := by omega
    go_enter Try.func8, Try.ntmps8
    go_wp2_with fail
    refine (aw4_any _).mono ?_
    rintro e w3 ⟨rfl, hb3⟩
    go_wp2
    go_ret
    exact ⟨rfl, hb3⟩
  have hz : decide ((200 : Int) < (d1.size : Int)) = false := by simp; omega
  by_cases hd2 : 200 < d2.size
  · have hz2 : (200 : Int) < (d2.size : Int) := by omega
    go_enter Try.func8, Try.ntmps8
    go_wp2_with fail
    refine (aw4_any _).mono ?_
    rintro e w3 ⟨rfl, hb3⟩
    go_wp2
    go_ret
    exact ⟨rfl, hb3⟩
  have hz2 : decide ((200 : Int) < (d2.size : Int)) = false := by simp; omega
  have hd1' : d1.size ≤ 200 := by omega
  have hd2' : d2.size ≤ 200 := by omega
  clear hd hd2
  by_cases hs : setE d1 = 0
  · have hq : (setE d1 != 0) = false := by simp [hs]
    have HS := Lib.hid hs
    obtain ⟨i0, hi0, hz0, hz1, hz2⟩ := info_parts range_info
    clear hs
    go_enter Try.func8, Try.ntmps8
    go_wp2_with fail
    refine (gCheck_any _ _ d1 _ h1).mono ?_
    rintro e w1 ⟨rfl, hB1⟩
    have p1 := rdz h1 hB1
    have p2 := rdz h2 hB1
    clear h1 h2
    have HE0 := Lib.hid (empty_ownsK w1 42 encR 2)
    go_wp2_with (at_builtin; refine append_rdK encR_one encR_len (by decide) rfl _ _ 33 rfl w1.heap.size 42 i0 (.agg #[.int .i64 0, .int .i64 0]) 16 Try.underlying33 hi0 hz0 hz1 hz2 rfl _ #[] rfl HE0.out w1.heap.size A1 c1 d1 rfl (p1.alloc (Nat.le_refl _) _) HN1.out (by simp; omega) (by decide) (by simp) ?_; intro v2 w2 hown2 hg2 _; have hB2 : Below w1.heap.size w1 w2 := (bel1 w1 _).grown hg2 (by simp) (fun k hk => (HE0.out.lt k hk).1); obtain ⟨A3, c3, rfl, p3, _⟩ := rdK_of_owns hown2)
    have e12 : #[] ++ d1 = d1 := by simp
    rw [e12] at p3
    have p1 := rdz p1 hB2
    have p2 := rdz p2 hB2
    have hB2 := belStep hB1 hB2
    clear e12 hown2 hg2 HE0 hB1
    refine (gAdd_few A1 c1 d1 A2 c2 d2 _ p1 p2 HS.out (by omega)).mono ?_
    rintro e w3 ⟨v3, m, rfl, hM, hMs, hV3, hb⟩
    have HM := Lib.hid hM
    obtain ⟨A4, c4, rfl, p4, _⟩ := hV3
    have p1 := rdz p1 hb
    have p2 := rdz p2 hb
    have p3 := rdz p3 hb
    have hB3 := belStep hB2 hb
    clear hb hB2 hM
    go_wp2
    go_loopw [9, 10] (fun v i wr => ∃ k j : Nat, k + j = d2.size ∧ i = .int .i64 ((j : Int) - 1) ∧ wr.ownsRow w3.heap.size 42 2 v (revN d2 k).size (flatK encR 2 (revN d2 k)).toList ∧ Below w3.heap.size w3 wr) (fun _ i _ => (intOf i + 1).toNat)
    case atStart => exact ⟨0, d2.size, by omega, rfl, nil_ownsK _ _ _ _ _, Below.refl _ _⟩
    case round =>
      obtain ⟨k, j, hkj, rfl, hown, hb⟩ := hrel
      have hKJ : k + j ≤ d2.size := Nat.le_of_eq hkj
      have hKJ' : d2.size ≤ k + j := Nat.le_of_eq hkj.symm
      clear hkj
      have ms : (revN d2 k).size ≤ k := Nat.le_of_eq (revN_size d2 k)
      have hzr := hb.size
      cases j with
      | zero =>
        have e0 : (((0 : Nat) : Int) - 1) = -1 := rfl
        rw [e0]
        clear e0
        obtain rfl : k = d2.size := by omega
        have HR : Hid (∀ y, pAdd d1 (revN d2 d2.size) y = pAdd d1 d2 y) := pAdd_rev d1 d2
        generalize revN d2 d2.size = bk at hown HR ms
        have p1 := rdz p1 hb
        have p2 := rdz p2 hb
        have p3 := rdz p3 hb
        have p4 := rdz p4 hb
        have hB3 := belStep hB3 hb
        obtain ⟨A5, c5, rfl, p5, _⟩ := rdK_of_owns hown
        clear hown hb hzr
        have hsm : setE m = 0 := HM.out.set (by omega)
        have HSM := Lib.hid hsm
        clear hsm
        go_wp2_with fail
        refine (same_yes A1 A3 c1 c3 d1 d1 _ p1 p3 rfl (by omega)).mono ?_
        rintro e w4 ⟨rfl, hb⟩
        have p1 := rdz p1 hb
        have p2 := rdz p2 hb
        have p3 := rdz p3 hb
        have p4 := rdz p4 hb
        have p5 := rdz p5 hb
        have hB3 := belStep hB3 hb
        clear hb
        go_wp2_with fail
        refine (gAdd_few A1 c1 d1 A5 c5 bk _ p1 p5 HS.out (by omega)).mono ?_
        rintro e w5 ⟨v5, o5, rfl, hO, _, hV, hb⟩
        have HE5 : Hid (o5 = m) := (hO.congr HR.out).uniq HM.out
        obtain ⟨X5, k5, rfl, q5, _⟩ := hV
        clear hO
        have p1 := rdz p1 hb
        have p2 := rdz p2 hb
        have p3 := rdz p3 hb
        have p4 := rdz p4 hb
        have p5 := rdz p5 hb
        have hB3 := belStep hB3 hb
        clear hb
        go_wp2_with fail
        refine (same_yes X5 A4 k5 c4 o5 m _ q5 p4 HE5.out (by omega)).mono ?_
        rintro e w6 ⟨rfl, hb⟩
        clear q5
        have p1 := rdz p1 hb
        have p2 := rdz p2 hb
        have p3 := rdz p3 hb
        have p4 := rdz p4 hb
        have p5 := rdz p5 hb
        have hB3 := belStep hB3 hb
        clear hb
        go_wp2_with fail
        refine (gAdd_few A4 c4 m A2 c2 d2 _ p4 p2 HSM.out (by omega)).mono ?_
        rintro e w7 ⟨v7, o7, rfl, hO, _, hV, hb⟩
        have HE7 : Hid (o7 = m) := (hO.congr (pAdd_again HM.out)).uniq HM.out
        obtain ⟨X7, k7, rfl, q7, _⟩ := hV
        clear hO
        have p1 := rdz p1 hb
        have p2 := rdz p2 hb
        have p3 := rdz p3 hb
        have p4 := rdz p4 hb
        have p5 := rdz p5 hb
        have hB3 := belStep hB3 hb
        clear hb
        go_wp2_with fail
        refine (same_yes X7 A4 k7 c4 o7 m _ q7 p4 HE7.out (by omega)).mono ?_
        rintro e w8 ⟨rfl, hb⟩
        clear q7
        have p1 := rdz p1 hb
        have p2 := rdz p2 hb
        have p3 := rdz p3 hb
        have p4 := rdz p4 hb
        have p5 := rdz p5 hb
        have hB3 := belStep hB3 hb
        clear hb
        go_wp2_with fail
        refine (gCheck_any A4 c4 m _ p4).mono ?_
        rintro e w9 ⟨rfl, hb⟩
        have p1 := rdz p1 hb
        have p2 := rdz p2 hb
        have p3 := rdz p3 hb
        have p4 := rdz p4 hb
        have p5 := rdz p5 hb
        have hB3 := belStep hB3 hb
        clear hb
        have hsm := HSM.out
        have HH : Hid (hasB m n = (may1 n && (inR d1 n || inR d2 n))) := HM.out.has (by omega) n
        by_cases t1 : 1 ≤ n
        · by_cases t2 : n ≤ 1000000
          · have hm1 : may1 n = true := may1_iff.2 ⟨t1, t2⟩
            cases i1 : inR d1 n <;> cases i2 : inR d2 n
            all_goals
              have hh := HH.out
              rw [hm1, i1, i2] at hh
              simp only [Bool.true_and, Bool.or_false, Bool.or_true, Bool.or_self] at hh
              clear hm1
              go_wp2_with (first
                | (go_at_call 26; (with_reducible refine (gHas_any A4 c4 m n _ p4).mono ?_); rintro e wH ⟨rfl, hbH⟩; have pH1 := rdz p1 hbH; have pH2 := rdz p2 hbH; have hBH := belStep hB3 hbH)
                | (go_at_call 40; first | ((with_reducible refine (within_any A1 c1 d1 n _ _ pH1 (by omega)).mono ?_); rintro e w' ⟨rfl, rfl⟩) | ((with_reducible refine (within_any A2 c2 d2 n _ _ pH2 (by omega)).mono ?_); rintro e w' ⟨rfl, rfl⟩))
                | (go_at_call 23; (with_reducible refine (aw4_any _).mono ?_); rintro e wA ⟨rfl, hbA⟩))
              go_ret
              exact ⟨rfl, belStep hBH hbA⟩
          · have hm1 : may1 n = false := by rw [Bool.eq_false_iff]; intro h; exact t2 (may1_iff.1 h).2
            have hh := HH.out
            rw [hm1, Bool.false_and] at hh
            clear hm1
            go_wp2_with (first
              | (go_at_call 26; (with_reducible refine (gHas_any A4 c4 m n _ p4).mono ?_); rintro e wH ⟨rfl, hbH⟩; have pH1 := rdz p1 hbH; have pH2 := rdz p2 hbH; have hBH := belStep hB3 hbH)
              | (go_at_call 40; first | ((with_reducible refine (within_any A1 c1 d1 n _ _ pH1 (by omega)).mono ?_); rintro e w' ⟨rfl, rfl⟩) | ((with_reducible refine (within_any A2 c2 d2 n _ _ pH2 (by omega)).mono ?_); rintro e w' ⟨rfl, rfl⟩))
              | (go_at_call 23; (with_reducible refine (aw4_any _).mono ?_); rintro e wA ⟨rfl, hbA⟩))
            go_ret
            exact ⟨rfl, belStep hBH hbA⟩
        · have hm1 : may1 n = false := by rw [Bool.eq_false_iff]; intro h; exact t1 (may1_iff.1 h).1
          have hh := HH.out
          rw [hm1, Bool.false_and] at hh
          clear hm1
          go_wp2_with (first
            | (go_at_call 26; (with_reducible refine (gHas_any A4 c4 m n _ p4).mono ?_); rintro e wH ⟨rfl, hbH⟩; have pH1 := rdz p1 hbH; have pH2 := rdz p2 hbH; have hBH := belStep hB3 hbH)
            | (go_at_call 40; first | ((with_reducible refine (within_any A1 c1 d1 n _ _ pH1 (by omega)).mono ?_); rintro e w' ⟨rfl, rfl⟩) | ((with_reducible refine (within_any A2 c2 d2 n _ _ pH2 (by omega)).mono ?_); rintro e w' ⟨rfl, rfl⟩))
            | (go_at_call 23; (with_reducible refine (aw4_any _).mono ?_); rintro e wA ⟨rfl, hbA⟩))
          go_ret
          exact ⟨rfl, belStep hBH hbA⟩
      | succ j =>
        have ej : (((j + 1 : Nat) : Int) - 1) = (j : Int) := by omega
        rw [ej]
        clear ej
        have hjl : j < d2.size := by omega
        obtain ⟨b, off, rfl, _, f⟩ := (p2.below hb).at_ hjl
        have f0 := f 0 (by omega)
        have f1 := f 1 (by omega)
        have HL : Hid (revN d2 (k + 1) = (revN d2 k).push d2[j]!) := by show (revN d2 k).push d2[d2.size - 1 - k]! = _; rw [show d2.size - 1 - k = j by omega]
        generalize d2[j]! = x at f0 f1 HL
        simp only [Nat.add_zero, encR, List.getElem!_cons_zero, List.getElem!_cons_succ] at f0 f1
        clear f
        generalize revN d2 k = out at hown HL ms
        obtain ⟨Am, cm, rfl, _, _⟩ := rdK_of_owns hown
        have kz : (j : Int) < (d2.size : Int) := by omega
        go_wp2_with (at_builtin; refine wpList_append_own _ rfl _ _ 33 rfl w3.heap.size 42 i0 (.agg #[.int .i64 0, .int .i64 0]) 2 16 Try.underlying33 hi0 hz0 hz1 hz2 rfl (by decide) _ _ _ rfl (hown.alloc _) ⟨wr.heap.size, 0, none⟩ 1 1 [.int .i64 x.1, .int .i64 x.2] rfl rfl (two_new wr _ _ _) (by simp [Value.oneCell']) (by unfold maxLen; omega) (by omega) (by simp; omega) ?_; intro v' w4 hown' hgrow _)
        exact ⟨⟨k + 1, j, by omega, rfl, (by rw [HL.out, Array.size_push, flatK_push encR_len]; exact hown'), own_app1 hb hzr hown hgrow⟩, by simp [intOf]⟩
  · have hq : (setE d1 != 0) = true := by simpa using hs
    clear hs
    go_enter Try.func8, Try.ntmps8
    go_wp2_with fail
    refine (gCheck_any _ _ d1 _ h1).mono ?_
    rintro e w1 ⟨rfl, hB1⟩
    go_wp2_with fail
    refine (aw4_any _).mono ?_
    rintro e w3 ⟨rfl, hb3⟩
    go_wp2
    go_ret
    exact ⟨rfl, belStep hB1 hb3⟩

set_option maxRecDepth 100000 in
theorem lifted (os : Os) (started : os.Started) (H : Type) (enc : TypeId × Value → H) :
    ReturnsInHanded {} Try.checked os 8 .any (Rows.rangesAddSpec.pre6 enc Try.prog Try.f8 Rows.rangesAddRow.domain false) (Rows.rangesAddSpec.post enc Try.prog Try.f8 false true false false) := by
  refine returnsInHanded_of_change_sized (C := Try.checked) own started (by kernel_rfl) Try.func8
    (ChangeSpec.witness6 (enc := enc) (C := Try.checked) false ⟨#[], #[.slice none 0 0, .slice none 0 0, .int .i64 0], []⟩ 8 (by kernel_rfl) (by kernel_rfl) (by kernel_rfl) (by kernel_rfl)) ?_
  intro W base args ds gs before hval0 hW _ _ _
  have hval : ∀ (j : Nat) t v, Try.f8.params[j]? = some t → args[j]? = some v → Value.okWide Try.prog W .any base t v := hval0
  have hW' := hW
  obtain ⟨p, q, hA0, hV, rfl, _, _⟩ := hW
  have hA : DataW.TrodAll enc Try.prog W 0 (fun _ => true) true Try.f8.params.toList args.toList ds p := hA0
  rw [Try.params8] at hA hval
  obtain ⟨v0, v1, v2, d0, d1, d2, p0, p1, p2, rfl, rfl, rfl, h0, h1, h2⟩ := trodAll_three hA
  obtain ⟨rfl, rfl⟩ := trodVars_none hV
  obtain ⟨A0, c0, z0, rfl, r0, n0⟩ := open_rdR Try.underlying33 Try.underlying42 (by kernel_rfl) (by kernel_rfl) Try.underlying3 Try.underlying3 (hval 0 33 v0 rfl rfl) h0
  obtain ⟨A1, c1, z1, rfl, r1, n1⟩ := open_rdR Try.underlying33 Try.underlying42 (by kernel_rfl) (by kernel_rfl) Try.underlying3 Try.underlying3 (hval 1 33 v1 rfl rfl) h1
  obtain ⟨a2, rfl, rfl, rfl, w2⟩ := open_int Try.underlying3 (hval 2 3 v2 rfl rfl) h2
  refine (walk A0 c0 z0 A1 c1 z1 a2 W r0 n0 r1 n1).mono fun e W' ⟨he, hb⟩ => ?_
  subst he
  exact ⟨_, rfl, law_post (tb := 4) laidOut (by decide +kernel) rfl hW' rfl rfl rfl rfl Try.underlying4 hb⟩

theorem over : Rows.rangesAddRow.holds Try.pinned (OpenSpec.ofChange Rows.rangesAddSpec) :=
  OpenClaim.holds_of_wide 8 Try.f8 rfl rfl rfl rfl rfl rfl rfl ⟨rfl, rfl, rfl, rfl, rfl⟩ rfl rfl rfl rfl rfl (by kernel_rfl) Try.func8 (by kernel_rfl)
    (of_decide_eq_true (by kernel_rfl)) (by unfold Func.isWrapper; first | (rw [if_pos (by decide +kernel)]; kernel_rfl) | (rw [if_neg (by decide +kernel)]; exact ⟨rfl, rfl⟩))
    (fun os started H enc _ => lifted os started H enc)
theorem proved : Rows.RangesAddSaid := over
#print axioms proved
end Go.Proofs.Ytpnjodefnpphkaa.rangesAdd
