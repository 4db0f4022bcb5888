/- The law TablePuts returns true for every input, and changes nothing that lay there. No condition. -/
import Derived.Test.YtgpejfkmdenonaaTbI
import Derived.Test.YtgpejfkmdenonaaOpenN
namespace Go.Proofs.Ytgpejfkmdenonaa.tablePuts
open Go.ChangeShapes Go.WideShapes Go.ChangeAt Go.RowKit Go.Deep Go.Sort
set_option maxRecDepth 100000
set_option maxHeartbeats 32000000 in
theorem walk (A : Option Addr) (c : Nat) (z : Array EN) (e : EN) (n : Int) (w : World) (r0 : RdT0 w A z) (r1 : RdE0 w e) :
    Calls Try.prog 3 #[.slice A z.size c, .agg (encE e).toArray, .int .i64 n] w fun r w' => r = .returned (.bool true) ∧ Below w.heap.size w w' := by
  have HL := Lib.hid (fun W (hb : Below w.heap.size w W) => few21_any A c z W (r0.below hb))
  have HE := Lib.hid (fun W => few20_any e W)
  have HX := Lib.hid (BoxW.init w (encE e).toArray 25)
  obtain ⟨g1, hg1⟩ : ∃ g, fewT z = g := ⟨_, rfl⟩
  obtain ⟨g2, hg2⟩ : ∃ g, decide (fewP e) = g := ⟨_, rfl⟩
  rw [hg1] at HL
  rw [hg2] at HE
  have HG1 := Lib.hid hg1
  have HG2 := Lib.hid hg2
  have R0 := Lib.hid r0
  have R1 := Lib.hid r1
  clear hg1 hg2 r0 r1
  simp only [encE] at HX HE ⊢
  cases g1
  · go_enter Try.func3, Try.ntmps3
    go_wp2_with fail
    refine (HL.out _ HX.out.b).mono ?_
    rintro _ w1 ⟨rfl, hb1⟩
    have HX := Lib.hid (HX.out.next hb1)
    clear hb1
    go_wp2_with fail
    refine (aw21_any _).mono ?_
    rintro _ w9 ⟨rfl, hb9⟩
    have HB9 := Lib.hid (belStep (Lib.hid HX.out.b).out hb9)
    clear hb9
    go_wp2
    go_ret
    exact ⟨rfl, HB9.out⟩
  cases g2
  · go_enter Try.func3, Try.ntmps3
    go_wp2_with fail
    refine (HL.out _ HX.out.b).mono ?_
    rintro _ w1 ⟨rfl, hb1⟩
    have HX := Lib.hid (HX.out.next hb1)
    clear hb1
    have y0 := HX.out.at_ 0
    have y1 := HX.out.at_ 1
    have y2 := HX.out.at_ 2
    have y3 := HX.out.at_ 3
    have y4 := HX.out.at_ 4
    have y5 := HX.out.at_ 5
    have y6 := HX.out.at_ 6
    have y7 := HX.out.at_ 7
    have y8 := HX.out.at_ 8
    have y9 := HX.out.at_ 9
    go_wp2_with fail
    refine (HE.out _).mono ?_
    rintro _ w2 ⟨rfl, hb2⟩
    have HX := Lib.hid (HX.out.next hb2)
    clear hb2 y0 y1 y2 y3 y4 y5 y6 y7 y8 y9
    go_wp2_with fail
    refine (aw21_any _).mono ?_
    rintro _ w9 ⟨rfl, hb9⟩
    have HB9 := Lib.hid (belStep (Lib.hid HX.out.b).out hb9)
    clear hb9
    go_wp2
    go_ret
    exact ⟨rfl, HB9.out⟩
  have HT := Lib.hid (R0.out.few HG1.out)
  have HR := Lib.hid (R1.out.few (of_decide_eq_true HG2.out).1 (of_decide_eq_true HG2.out).2)
  go_enter Try.func3, Try.ntmps3
  go_wp2_with fail
  refine (HL.out _ HX.out.b).mono ?_
  rintro _ w1 ⟨rfl, hb1⟩
  have HX := Lib.hid (HX.out.next hb1)
  clear hb1
  have y0 := HX.out.at_ 0
  have y1 := HX.out.at_ 1
  have y2 := HX.out.at_ 2
  have y3 := HX.out.at_ 3
  have y4 := HX.out.at_ 4
  have y5 := HX.out.at_ 5
  have y6 := HX.out.at_ 6
  have y7 := HX.out.at_ 7
  have y8 := HX.out.at_ 8
  have y9 := HX.out.at_ 9
  go_wp2_with fail
  refine (HE.out _).mono ?_
  rintro _ w2 ⟨rfl, hb2⟩
  have HX := Lib.hid (HX.out.next hb2)
  clear hb2 y0 y1 y2 y3 y4 y5 y6 y7 y8 y9
  have y0 := HX.out.at_ 0
  have y1 := HX.out.at_ 1
  have y2 := HX.out.at_ 2
  have y3 := HX.out.at_ 3
  have y4 := HX.out.at_ 4
  have y5 := HX.out.at_ 5
  have y6 := HX.out.at_ 6
  have y7 := HX.out.at_ 7
  have y8 := HX.out.at_ 8
  have y9 := HX.out.at_ 9
  have HP := Lib.hid (tPut_any A c z e w2 (HT.out.below HX.out.b) (HR.out.below HX.out.b))
  simp only [encE] at HP
  go_wp2_with fail
  refine HP.out.mono ?_
  rintro _ w3 ⟨⟨A3, c3, rfl, h3⟩, hb3⟩
  have HX := Lib.hid (HX.out.next hb3)
  have H3 := Lib.hid (fun W (hb : Below w3.heap.size w3 W) => h3.below hb)
  have HQ : Hid (Below w3.heap.size w3 w3) := Below.refl _ _
  have HP := Lib.hid (rPut_any A c z e w3 (HT.out.below HX.out.b) (HR.out.below HX.out.b))
  clear hb3 h3 y0 y1 y2 y3 y4 y5 y6 y7 y8 y9
  have y0 := HX.out.at_ 0
  have y1 := HX.out.at_ 1
  have y2 := HX.out.at_ 2
  have y3 := HX.out.at_ 3
  have y4 := HX.out.at_ 4
  have y5 := HX.out.at_ 5
  have y6 := HX.out.at_ 6
  have y7 := HX.out.at_ 7
  have y8 := HX.out.at_ 8
  have y9 := HX.out.at_ 9
  simp only [encE] at HP
  go_wp2_with fail
  refine HP.out.mono ?_
  rintro _ w4 ⟨⟨A4, c4, rfl, h4⟩, hb4⟩
  have HX := Lib.hid (HX.out.next hb4)
  have HQ := Lib.hid (belStep HQ.out hb4)
  have H4 := Lib.hid (fun W (hb : Below w4.heap.size w4 W) => h4.below hb)
  have HS : Hid (Below w4.heap.size w4 w4) := Below.refl _ _
  have HF := Lib.hid (tFind_any A c z n w4 (HT.out.below HX.out.b).zero (by have := HT.out.sz; omega))
  clear hb4 h4 HP y0 y1 y2 y3 y4 y5 y6 y7 y8 y9
  generalize putC z e = pc
  go_wp2_with fail
  refine HF.out.mono ?_
  rintro _ w5 ⟨⟨⟨x, ok⟩, rfl, hr⟩, hb5⟩
  simp only [encE]
  have HRX := Lib.hid (hr.rd (HT.out.below HX.out.b))
  have HX := Lib.hid ((HX.out.next hb5).next (bel1 w5 (.cells #[.int .i64 x.id, .int .i64 x.ph, .int .i64 x.qu, .int .i64 x.t, .int .i64 x.bal, .int .i64 x.abal, .int .i64 x.seen, .int .i64 x.age, .string x.pay, .slice x.A x.z.size x.c] 25)))
  have HS := Lib.hid (belAlloc (belStep HS.out hb5) (.cells #[.int .i64 x.id, .int .i64 x.ph, .int .i64 x.qu, .int .i64 x.t, .int .i64 x.bal, .int .i64 x.abal, .int .i64 x.seen, .int .i64 x.age, .string x.pay, .slice x.A x.z.size x.c] 25))
  have HU := Lib.hid hr
  have HY := Lib.hid (BoxW.init w5 #[.int .i64 x.id, .int .i64 x.ph, .int .i64 x.qu, .int .i64 x.t, .int .i64 x.bal, .int .i64 x.abal, .int .i64 x.seen, .int .i64 x.age, .string x.pay, .slice x.A x.z.size x.c] 25)
  have HF := Lib.hid (rFind_any A c z n (w5.alloc (.cells #[.int .i64 x.id, .int .i64 x.ph, .int .i64 x.qu, .int .i64 x.t, .int .i64 x.bal, .int .i64 x.abal, .int .i64 x.seen, .int .i64 x.age, .string x.pay, .slice x.A x.z.size x.c] 25)) (HT.out.below HX.out.b).zero (by have := HT.out.sz; omega))
  clear hb5 hr
  go_wp2_with fail
  refine HF.out.mono ?_
  rintro _ w6 ⟨⟨r', rfl, hr⟩, hb6⟩
  obtain rfl := hr.uniq HU.out
  simp only [encE]
  have HX := Lib.hid ((HX.out.next hb6).next (bel1 w6 (.cells #[.int .i64 x.id, .int .i64 x.ph, .int .i64 x.qu, .int .i64 x.t, .int .i64 x.bal, .int .i64 x.abal, .int .i64 x.seen, .int .i64 x.age, .string x.pay, .slice x.A x.z.size x.c] 25)))
  have HS := Lib.hid (belAlloc (belStep HS.out hb6) (.cells #[.int .i64 x.id, .int .i64 x.ph, .int .i64 x.qu, .int .i64 x.t, .int .i64 x.bal, .int .i64 x.abal, .int .i64 x.seen, .int .i64 x.age, .string x.pay, .slice x.A x.z.size x.c] 25))
  have HY := Lib.hid ((HY.out.next hb6).next (bel1 w6 (.cells #[.int .i64 x.id, .int .i64 x.ph, .int .i64 x.qu, .int .i64 x.t, .int .i64 x.bal, .int .i64 x.abal, .int .i64 x.seen, .int .i64 x.age, .string x.pay, .slice x.A x.z.size x.c] 25)))
  have HZ := Lib.hid (BoxW.init w6 #[.int .i64 x.id, .int .i64 x.ph, .int .i64 x.qu, .int .i64 x.t, .int .i64 x.bal, .int .i64 x.abal, .int .i64 x.seen, .int .i64 x.age, .string x.pay, .slice x.A x.z.size x.c] 25)
  have HC := Lib.hid (tCheck_any A c z (w6.alloc (.cells #[.int .i64 x.id, .int .i64 x.ph, .int .i64 x.qu, .int .i64 x.t, .int .i64 x.bal, .int .i64 x.abal, .int .i64 x.seen, .int .i64 x.age, .string x.pay, .slice x.A x.z.size x.c] 25)) (HT.out.below HX.out.b))
  clear hb6 hr HF
  go_wp2_with fail
  refine HC.out.mono ?_
  rintro _ w7 ⟨rfl, hb7⟩
  have HX := Lib.hid (HX.out.next hb7)
  have HY := Lib.hid (HY.out.next hb7)
  have HZ := Lib.hid (HZ.out.next hb7)
  have HS := Lib.hid (belStep HS.out hb7)
  have HC := Lib.hid (rtCheck_any A c z w7 (HT.out.below HX.out.b))
  clear hb7
  generalize tabE z = tz at HC
  go_wp2_with fail
  refine HC.out.mono ?_
  rintro _ w8 ⟨rfl, hb8⟩
  have HX := Lib.hid (HX.out.next hb8)
  have HY := Lib.hid (HY.out.next hb8)
  have HZ := Lib.hid (HZ.out.next hb8)
  have HS := Lib.hid (belStep HS.out hb8)
  have HC := Lib.hid (rSame21_any A3 A4 c3 c4 (putD z e) (putD z e) w8 (H3.out _ (belStep HQ.out HS.out)) (H4.out _ HS.out))
  rw [sameT_self] at HC
  clear hb8
  go_wp2_with fail
  refine HC.out.mono ?_
  rintro _ wa ⟨rfl, hba⟩
  have HX := Lib.hid (HX.out.next hba)
  have HY := Lib.hid (HY.out.next hba)
  have HZ := Lib.hid (HZ.out.next hba)
  have HS := Lib.hid (belStep HS.out hba)
  have HC := Lib.hid (rSame20_any x x wa (HRX.out.zero.below (HS.out)) (HRX.out.zero.below (HS.out)) (by have := HRX.out.sz; omega) (by have := HRX.out.sz; omega))
  rw [decide_eq_true (sameP_refl x)] at HC
  clear hba
  have y0 := HY.out.at_ 0
  have y1 := HY.out.at_ 1
  have y2 := HY.out.at_ 2
  have y3 := HY.out.at_ 3
  have y4 := HY.out.at_ 4
  have y5 := HY.out.at_ 5
  have y6 := HY.out.at_ 6
  have y7 := HY.out.at_ 7
  have y8 := HY.out.at_ 8
  have y9 := HY.out.at_ 9
  have u0 := HZ.out.at_ 0
  have u1 := HZ.out.at_ 1
  have u2 := HZ.out.at_ 2
  have u3 := HZ.out.at_ 3
  have u4 := HZ.out.at_ 4
  have u5 := HZ.out.at_ 5
  have u6 := HZ.out.at_ 6
  have u7 := HZ.out.at_ 7
  have u8 := HZ.out.at_ 8
  have u9 := HZ.out.at_ 9
  simp only [encE] at HC
  go_wp2_with fail
  refine HC.out.mono ?_
  rintro _ wb ⟨rfl, hbb⟩
  have HX := Lib.hid (HX.out.next hbb)
  have HC := Lib.hid (tDrop_any A c z n wb (HT.out.below HX.out.b))
  clear hbb y0 y1 y2 y3 y4 y5 y6 y7 y8 y9 u0 u1 u2 u3 u4 u5 u6 u7 u8 u9
  go_wp2_with fail
  refine HC.out.mono ?_
  rintro _ wc ⟨Ac, cc, rfl, hc, hbc⟩
  have HX := Lib.hid (HX.out.next hbc)
  have HKc := Lib.hid hc
  have HC := Lib.hid (rDrop_any A c z n wc (HT.out.below HX.out.b))
  clear hbc hc
  go_wp2_with fail
  refine HC.out.mono ?_
  rintro _ wd ⟨Ad, cd, rfl, hd, hbd⟩
  have HX := Lib.hid (HX.out.next hbd)
  have HC := Lib.hid (rSame21_any Ac Ad cc cd (keepT n z) (keepT n z) wd (HKc.out.below hbd) hd)
  rw [sameT_self] at HC
  clear hbd hd
  go_wp2_with fail
  refine HC.out.mono ?_
  rintro _ we ⟨rfl, hbe⟩
  have HX := Lib.hid (HX.out.next hbe)
  clear hbe
  go_wp2_with fail
  refine (aw21_any _).mono ?_
  rintro _ w9 ⟨rfl, hb9⟩
  have HB9 := Lib.hid (belStep (Lib.hid HX.out.b).out hb9)
  clear hb9
  go_wp2
  go_ret
  exact ⟨rfl, HB9.out⟩

set_option maxRecDepth 100000 in
theorem lifted (os : Os) (started : os.Started) (H : Type) (enc : TypeId × Value → H) :
    ReturnsInHanded {} Try.checked os 3 .any (Rows.tablePutsSpec.pre6 enc Try.prog Try.f3 Rows.tablePutsRow.domain false) (Rows.tablePutsSpec.post enc Try.prog Try.f3 false true false false) := by
  refine returnsInHanded_of_change_sized (C := Try.checked) own started (by kernel_rfl) Try.func3
    (ChangeSpec.witness6 (enc := enc) (C := Try.checked) false ⟨#[], #[.slice none 0 0, .agg #[.int .i64 0, .int .i64 0, .int .i64 0, .int .i64 0, .int .i64 0, .int .i64 0, .int .i64 0, .int .i64 0, .string ⟨#[]⟩, .slice none 0 0], .int .i64 0], []⟩ 8 (by kernel_rfl) (by kernel_rfl) (by kernel_rfl) (by kernel_rfl)) ?_
  intro W base args ds gs before hval0 hW _ _ _
  have hval : ∀ (j : Nat) t v, Try.f3.params[j]? = some t → args[j]? = some v → Value.okWide Try.prog W .any base t v := hval0
  have hW' := hW
  obtain ⟨p, q, hA0, hV, rfl, _, _⟩ := hW
  have hA : DataW.TrodAll enc Try.prog W 0 (fun _ => true) true Try.f3.params.toList args.toList ds p := hA0
  rw [Try.params3] at hA hval
  obtain ⟨v0, v1, v2, d0, d1, d2, p0, p1, p2, rfl, rfl, rfl, h0, h1, h2⟩ := trodAll_three hA
  obtain ⟨rfl, rfl⟩ := trodVars_none hV
  obtain ⟨A0, c0, z0, rfl, r0, n0⟩ := open_ents (hval 0 22 v0 rfl rfl) h0
  obtain ⟨e1, rfl, r1⟩ := open_ent (hval 1 25 v1 rfl rfl) h1
  obtain ⟨a2, rfl, rfl, rfl, w2⟩ := open_int Try.underlying3 (hval 2 3 v2 rfl rfl) h2
  refine (walk A0 c0 z0 e1 a2 W r0 r1).mono fun e W' ⟨he, hb⟩ => ?_
  subst he
  exact ⟨_, rfl, law_post (tb := 4) laidOut (by decide +kernel) rfl hW' rfl rfl rfl rfl Try.underlying4 hb⟩

theorem over : Rows.tablePutsRow.holds Try.pinned (OpenSpec.ofChange Rows.tablePutsSpec) :=
  OpenClaim.holds_of_wide 3 Try.f3 rfl rfl rfl rfl rfl rfl rfl ⟨rfl, rfl, rfl, rfl, rfl⟩ rfl rfl rfl rfl rfl (by kernel_rfl) Try.func3 (by kernel_rfl)
    (of_decide_eq_true (by kernel_rfl)) (by unfold Func.isWrapper; first | (rw [if_pos (by decide +kernel)]; kernel_rfl) | (rw [if_neg (by decide +kernel)]; exact ⟨rfl, rfl⟩))
    (fun os started H enc _ => lifted os started H enc)
theorem proved : Rows.TablePutsSaid := over
#print axioms proved
end Go.Proofs.Ytgpejfkmdenonaa.tablePuts
