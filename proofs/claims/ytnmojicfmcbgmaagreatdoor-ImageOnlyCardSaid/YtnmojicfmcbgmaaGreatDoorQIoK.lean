/- The law's probe: rubatolaw36.awake. What the laws of images lean on: plain, and the calls told so. -/
import Derived.Test.YtnmojicfmcbgmaaGreatDoorQIoI
import Derived.Test.YtnmojicfmcbgmaaGreatDoorQImG
namespace Go.Proofs.YtnmojicfmcbgmaaGreatDoor
open Go.RowKit Go.Sort Go.Lib Nb
set_option maxRecDepth 100000
theorem pt_new (W : World) : Calls Tryz.prog 19 #[.int .i64 3, .int .i64 1, .int .i64 1] W fun e w' => ∃ (r : RP) (cs : Array Value), e = .returned (.tuple #[.agg cs, .int .i64 0]) ∧ cs = (encP r).toArray ∧ NewR 3 1 1 3 r ∧ RdP w' r ∧ Below W.heap.size W w' :=
  (rStNew_any 3 1 1 W).mono fun e w' ⟨⟨r, he, hn, hr⟩, hb⟩ => by
    have hp : newP 3 1 1 := by decide
    rw [if_pos hp] at he hn
    exact ⟨r, _, he, rfl, hn, hr, hb⟩
theorem pt_put {r : RP} {cs : Array Value} (hcs : cs = (encP r).toArray) (hp : putE r = 0) (hf : FewC r) (W : World) (hr : RdP W r) :
    Calls Tryz.prog 8 #[.agg cs] W fun e w' => e = .returned (.tuple #[.string ⟨(bytesR r).toArray⟩, .nilIface]) ∧ Below W.heap.size W w' := by
  rw [hcs]
  refine (imPut_any r W hr hf).mono ?_
  rintro e w' ⟨h | ⟨h, _⟩, hb⟩
  · exact ⟨h.2, hb⟩
  · exact absurd hp h
theorem pt_take {r : RP} (hp : putE r = 0) (hl : (bytesR r).length ≤ 18000) (W : World) (hg : Glob W) :
    Calls Tryz.prog 10 #[.string ⟨(bytesR r).toArray⟩] W fun e w' => ∃ (R : RP) (cs : Array Value), e = .returned (.tuple #[.agg cs, .nilIface]) ∧ cs = (encP R).toArray ∧ RdP w' R ∧ sameW R r = true ∧ chkW R = true ∧ FewI R ∧ Below W.heap.size W w' := by
  refine (imTake_any ⟨(bytesR r).toArray⟩ W hg (by show (bytesR r).toArray.size ≤ _; simp; omega)).mono ?_
  rintro e w' ⟨R, c, ev, he, ht, hr, herr, hb⟩
  obtain ⟨hc, h1, h2, h3, h4⟩ := take_put hp (by simpa using ht)
  subst hc
  rcases herr with ⟨_, rfl⟩ | ⟨h, _⟩
  · exact ⟨R, _, he, rfl, hr, h1, h2, fewI_of h3 h4, hb⟩
  · exact absurd rfl h
theorem pt_more {r : RP} (hp : putE r = 0) (hl : (bytesR r).length ≤ 17000) (W : World) (hg : Glob W) :
    Calls Tryz.prog 10 #[.string (⟨(bytesR r).toArray⟩ ++ ⟨#[120]⟩)] W fun e w' => ∃ (cs : Array Value) (ev : Value) (ops : List ByteArray), e = .returned (.tuple #[.agg cs, ev]) ∧ cs.size = 18 ∧ allOne cs = true ∧ Chain w' (imageS :: ops) 6 ev ∧ Below W.heap.size W w' := by
  have e1 := sbx (l := bytesR r) (x := 120)
  obtain ⟨sx, hsx⟩ : ∃ y : ByteArray, (⟨(bytesR r).toArray⟩ ++ ⟨#[120]⟩ : ByteArray) = y := ⟨_, rfl⟩
  rw [hsx] at e1 ⊢
  have e2 : sx.size ≤ 1000000 := by
    have : sx.data.toList.length = sx.size := by simp
    rw [← this, e1, List.length_append]
    simp only [List.length_cons, List.length_nil]
    omega
  clear hsx
  refine (imTake_any sx W hg e2).mono ?_
  rintro e w' ⟨R, c, ev, he, ht, hr, herr, hb⟩
  rw [e1] at ht
  have hc := take_rest hp (by omega) ht
  subst hc
  rcases herr with ⟨h, _⟩ | ⟨_, ops, _, h⟩
  · cases h
  · exact ⟨_, ev, ops, he, encP_size R, encP_all R, h, hb⟩
theorem pt_arg (W : World) :
    Calls Tryz.prog 8 #[.agg (encP (default : RP)).toArray] W fun e w' => ∃ v, e = .returned (.tuple #[.string ⟨#[]⟩, v]) ∧ Chain w' [imageS] 2 v ∧ Below W.heap.size W w' := by
  refine (imPut_any default W (rdP_default W) fewC_default).mono ?_
  rintro e w' ⟨h | ⟨_, v, h1, h2⟩, hb⟩
  · rw [def_put] at h; exact absurd h.1 (by decide)
  · rw [def_put] at h2
    exact ⟨v, h1, h2, hb⟩
attribute [local go_sem ↓] execOp_loadRep execOp_storeRep
attribute [local go_sem] run_loadBox run_storeBox_any run_storeBox_newA allOne_lit size_lit
set_option maxHeartbeats 16000000 in
theorem aw36_any (w : World) (hg : Glob w) : Calls Tryz.prog 7 #[] w fun e w' => e = .returned (.bool true) ∧ Below w.heap.size w w' := by
  have HG := Lib.hid hg
  clear hg
  go_enter Tryz.func7, Tryz.ntmps7
  go_wp2_with fail
  refine (pt_new _).mono ?_
  rintro _ w1 ⟨r, cs, rfl, hcs, hn, hr, hb1⟩
  have HCS := Lib.hid hcs
  have HI : cs.size = 18 := by rw [hcs]; rfl
  have H1 : allOne cs = true := by rw [hcs]; exact encP_all r
  have HN := Lib.hid hn
  have HR := Lib.hid hr
  have HB1 := Lib.hid hb1
  have HLN := Lib.hid (new_len hn)
  have HPU := Lib.hid (new_put hn)
  have HFW := Lib.hid (hn.few (by decide)).c
  clear hcs hn hr hb1
  go_upto_region 2 with (fail)
  obtain ⟨q1, hq1⟩ : ∃ p, p = w1.heap.size := ⟨_, rfl⟩
  have X2 : Hid ((w1.alloc (.cells cs 35)).heap[w1.heap.size]? = some (.cells cs 35 (0, 0))) := heap_new_D w1 _
  have B2 := Lib.hid (belStep HB1.out (bel1 w1 (.cells cs 35)))
  have R2 := Lib.hid (HR.out.below (bel1 w1 (.cells cs 35)))
  obtain ⟨w2, hw2⟩ : ∃ W, W = w1.alloc (.cells cs 35) := ⟨_, rfl⟩
  rw [← hw2, ← hq1] at X2
  rw [← hw2] at B2 R2 ⊢
  rw [← hq1]
  clear hw2 hq1 HB1 HR
  have x1 := boxAt_of X2.out HI
  have x2 := rowAt_of X2.out
  have HP := Lib.hid (pt_put HCS.out HPU.out HFW.out w2 R2.out)
  obtain ⟨sb, hsb⟩ : ∃ y : ByteArray, (⟨(bytesR r).toArray⟩ : ByteArray) = y := ⟨_, rfl⟩
  have HT := Lib.hid (fun W (h : Glob W) => pt_take HPU.out (by rw [HLN.out]; decide) W h)
  have HM := Lib.hid (fun W (h : Glob W) => pt_more HPU.out (by rw [HLN.out]; decide) W h)
  have hsz : sb.size = 42 := by
    rw [← hsb]
    show (bytesR r).toArray.size = 42
    rw [List.size_toArray]
    exact HLN.out
  rw [hsb] at HP HT HM
  clear hsb
  go_wp2_with fail
  refine HP.out.mono ?_
  rintro _ w3 ⟨rfl, hb3⟩
  have X3 := Lib.hid ((hb3.block _ (lt_of_heap X2.out)).trans X2.out)
  have B3 := Lib.hid (belStep B2.out hb3)
  have R3 := Lib.hid (R2.out.below hb3)
  clear hb3 x1 x2 HP X2 B2 R2
  go_wp2_with fail
  refine (HT.out _ (HG.out.below B3.out)).mono ?_
  rintro _ w4 ⟨R, ct, rfl, hct, hrt, hsm, hck, hft, hb4⟩
  have HI2 : ct.size = 18 := by rw [hct]; rfl
  have H2 : allOne ct = true := by rw [hct]; exact encP_all R
  have HCT := Lib.hid hct
  have HSM := Lib.hid hsm
  have HFT := Lib.hid hft
  have X4 := Lib.hid ((hb4.block _ (lt_of_heap X3.out)).trans X3.out)
  have B4 := Lib.hid (belStep B3.out hb4)
  have R4 := Lib.hid (R3.out.below hb4)
  have T4 := Lib.hid hrt
  clear hct hrt hsm hck hft hb4 X3 B3 R3 HT
  go_upto_region 4 with (fail)
  obtain ⟨q2, hq2⟩ : ∃ p, p = w4.heap.size := ⟨_, rfl⟩
  have hb5 := bel1 w4 (.cells ct 35)
  have Y5 : Hid ((w4.alloc (.cells ct 35)).heap[w4.heap.size]? = some (.cells ct 35 (0, 0))) := heap_new_D w4 _
  have X5 := Lib.hid ((hb5.block _ (lt_of_heap X4.out)).trans X4.out)
  have B5 := Lib.hid (belStep B4.out hb5)
  have R5 := Lib.hid (R4.out.below hb5)
  have T5 := Lib.hid (T4.out.below hb5)
  obtain ⟨w5, hw5⟩ : ∃ W, W = w4.alloc (.cells ct 35) := ⟨_, rfl⟩
  rw [← hw5, ← hq2] at Y5
  rw [← hw5] at X5 B5 R5 T5 ⊢
  rw [← hq2]
  clear hw5 hq2 hb5 X4 B4 R4 T4
  go_wp2_with fail
  refine (HM.out _ (HG.out.below B5.out)).mono ?_
  rintro _ w6 ⟨cb, ev, ops, rfl, hcb, hcb1, hch, hb6⟩
  have hb7 := belStep hb6 (bel1 w6 (.cells cb 35))
  have C6 := Lib.hid (hch.below (bel1 w6 (.cells cb 35)))
  clear hch HM
  go_upto_region 5 with (fail)
  obtain ⟨w7, hw7⟩ : ∃ W, W = w6.alloc (.cells cb 35) := ⟨_, rfl⟩
  rw [← hw7] at hb7 C6 ⊢
  have X7 := Lib.hid ((hb7.block _ (lt_of_heap X5.out)).trans X5.out)
  have Y7 := Lib.hid ((hb7.block _ (lt_of_heap Y5.out)).trans Y5.out)
  have B7 := Lib.hid (belStep B5.out hb7)
  have R7 := Lib.hid (R5.out.below hb7)
  have T7 := Lib.hid (T5.out.below hb7)
  clear hw7 hb6 hb7 hcb hcb1 X5 Y5 B5 R5 T5
  go_wp2_with fail
  refine (pt_arg _).mono ?_
  rintro _ w8 ⟨va, rfl, hch, hb8⟩
  have X8 := Lib.hid ((hb8.block _ (lt_of_heap X7.out)).trans X7.out)
  have Y8 := Lib.hid ((hb8.block _ (lt_of_heap Y7.out)).trans Y7.out)
  have B8 := Lib.hid (belStep B7.out hb8)
  have R8 := Lib.hid (R7.out.below hb8)
  have T8 := Lib.hid (T7.out.below hb8)
  have C8 := Lib.hid (C6.out.below hb8)
  have D8 := Lib.hid hch
  clear hb8 hch X7 Y7 B7 R7 T7 C6
  have x1 := boxAt_of X8.out HI
  have x2 := rowAt_of X8.out
  have y1 := boxAt_of Y8.out HI2
  have y2 := rowAt_of Y8.out
  have HSA : Hid (Calls Tryz.prog 14 #[.agg ct, .agg cs] w8 fun e w' => e = .returned (.bool true) ∧ Below w8.heap.size w8 w') := by
    have := rSameW_any R r w8 T8.out R8.out HFT.out.c HFW.out HFT.out.it HFT.out.ss (by rw [HN.out.it]; decide) (by rw [HN.out.ss]; decide)
    rw [HSM.out, ← HCT.out, ← HCS.out] at this
    exact this
  go_wp2_with fail
  refine HSA.out.mono ?_
  rintro _ w9 ⟨rfl, hb9⟩
  have X9 := Lib.hid ((hb9.block _ (lt_of_heap X8.out)).trans X8.out)
  have B9 := Lib.hid (belStep B8.out hb9)
  have R9 := Lib.hid (R8.out.below hb9)
  have C9 := Lib.hid (C8.out.below hb9)
  have D9 := Lib.hid (D8.out.below hb9)
  clear hb9 x1 x2 y1 y2 HSA X8 Y8 B8 R8 T8 C8 D8
  go_wp2_with fail
  refine (Code_any (imageS :: ops) 6 ev _ (HG.out.below B9.out) (Or.inr ⟨by decide, C9.out⟩)).mono ?_
  rintro _ w10 ⟨rfl, hb10⟩
  have X10 := Lib.hid ((hb10.block _ (lt_of_heap X9.out)).trans X9.out)
  have B10 := Lib.hid (belStep B9.out hb10)
  have R10 := Lib.hid (R9.out.below hb10)
  have D10 := Lib.hid (D9.out.below hb10)
  clear hb10 X9 B9 R9 C9 D9
  go_wp2_with fail
  refine (Code_any [imageS] 2 va _ (HG.out.below B10.out) (Or.inr ⟨by decide, D10.out⟩)).mono ?_
  rintro _ w11 ⟨rfl, hb11⟩
  have X11 := Lib.hid ((hb11.block _ (lt_of_heap X10.out)).trans X10.out)
  have B11 := Lib.hid (belStep B10.out hb11)
  have R11 := Lib.hid (R10.out.below hb11)
  have D11 := Lib.hid (D10.out.below hb11)
  clear hb11 X10 B10 R10 D10
  go_wp2_with fail
  refine (At_any [imageS] 2 va imageS _ (HG.out.below B11.out) D11.out (by decide)).mono ?_
  rw [show hasS [imageS] imageS = true from hasS_yes (by simp)]
  rintro _ w12 ⟨rfl, hb12⟩
  have X12 := Lib.hid ((hb12.block _ (lt_of_heap X11.out)).trans X11.out)
  have B12 := Lib.hid (belStep B11.out hb12)
  have R12 := Lib.hid (R11.out.below hb12)
  clear hb12 X11 B11 R11 D11
  have x1 := boxAt_of X12.out HI
  have x2 := rowAt_of X12.out
  have HSI : Hid (Calls Tryz.prog 13 #[.agg cs] w12 fun e w' => e = .returned (.int .i64 42) ∧ Below w12.heap.size w12 w') := by
    have := imSize_any r w12 R12.out HFW.out
    rw [HPU.out, if_pos rfl, HLN.out, ← HCS.out] at this
    exact this
  go_wp2_with fail
  refine HSI.out.mono ?_
  rintro _ w13 ⟨rfl, hb13⟩
  have B13 := Lib.hid (belStep B12.out hb13)
  clear hb13 x1 x2 HSI X12 B12 R12
  have HSD : Hid (∀ W, Calls Tryz.prog 13 #[.agg (encP (default : RP)).toArray] W fun e w' => e = .returned (.int .i64 0) ∧ Below W.heap.size W w') := fun W => by
    have := imSize_any default W (rdP_default W) fewC_default
    rw [def_put, if_neg (by decide)] at this
    exact this
  go_wp2_with fail
  refine (HSD.out _).mono ?_
  rintro _ w14 ⟨rfl, hb14⟩
  have B14 := Lib.hid (belStep B13.out hb14)
  clear hb14 HSD B13
  go_wp2
  go_ret
  exact ⟨rfl, B14.out⟩
end Go.Proofs.YtnmojicfmcbgmaaGreatDoor
namespace Go.Proofs.YtnmojicfmcbgmaaGreatDoor
open Go.RowKit Go.Sort Go.Lib Nb
set_option maxRecDepth 100000
theorem fewW_c {r : RP} (h : fewW r = true) : FewC r ∧ r.it.z.size ≤ 1000 ∧ r.ss.z.size ≤ 1000 := by
  unfold fewW at h
  rw [Bool.and_eq_true] at h
  have hp := fewR_iff.1 h.1
  have h2 := h.2
  unfold fewSto fewSs at h2
  simp only [Bool.and_eq_true, decide_eq_true_eq] at h2
  exact ⟨hp.c, by omega, by omega⟩
theorem put_all {r : RP} (hp : putE r = 0) : chkW r = true ∧ wideB r = false ∧ (bytesR r).length ≤ 18000 := by
  unfold putE at hp
  split at hp
  · rename_i hc
    split at hp
    · cases hp
    · rename_i hw
      split at hp
      · cases hp
      · rename_i hl
        exact ⟨hc, by simpa using hw, by omega⟩
  · cases hp
theorem put_not {r : RP} (hp : putE r ≠ 0) : putE r = 3 ∨ (putE r = 2 ∧ chkW r = false) := by
  unfold putE at hp ⊢
  split
  · rename_i hc
    rw [if_pos hc] at hp
    split
    · exact Or.inl rfl
    · split
      · exact Or.inl rfl
      · rename_i h1 h2
        rw [if_neg h1, if_neg h2] at hp
        exact absurd rfl hp
  · rename_i hc
    exact Or.inr ⟨rfl, by simpa using hc⟩
/-- What was read well is laid as it stood. -/
theorem tk_put {s : List UInt8} {R : RP} (h : TkO s R 0) : chkW R = true ∧ FewI R ∧ bytesR R = s ∧ putE R = 0 ∧ tkE s = 0 := by
  rcases h with ⟨h1, h2, _⟩ | ⟨_, h2, _⟩ | ⟨h1, _, hx, nx, cx⟩
  · exact absurd h2.symm h1
  · cases h2
  · obtain ⟨b1, b2, b3, _⟩ := tk_back h1
    rw [← hx] at b2 b3
    have hf := fewI_of b3 nx
    have hb : bytesR R = s := by rw [bytesR_eq]; exact b2.symm
    refine ⟨cx, hf, hb, ?_, h1⟩
    unfold putE
    rw [if_pos cx, hf.w, if_neg Bool.false_ne_true, hb, if_neg (by omega)]
theorem tkO_code {s : List UInt8} {R : RP} {c : Nat} (h : TkO s R c) (hc : c ≠ 0) : R = default := by
  rcases h with ⟨_, _, h2⟩ | ⟨_, _, h2, _⟩ | ⟨_, h2, _⟩
  · exact h2
  · exact h2
  · exact absurd h2 hc
theorem numB_pos (n : Nat) : 1 ≤ (numB n).length := by
  unfold numB
  split
  · exact Nat.le_refl 1
  · rw [List.length_cons]; omega
theorem flat_pos : ∀ l : List Nat, l.length ≤ (l.flatMap numB).length
  | [] => Nat.le_refl _
  | a :: l => by
    rw [List.flatMap_cons, List.length_append, List.length_cons]
    have := numB_pos a
    have := flat_pos l
    omega
theorem bytes_ten (r : RP) : 10 ≤ (bytesR r).length := by
  unfold bytesR
  have := flat_pos ((n10 r).map Int.toNat)
  have e : ((n10 r).map Int.toNat).length = 10 := rfl
  simp only [List.length_append]
  omega
/-- Take of a replica's own bytes. -/
theorem im_back {r : RP} (hp : putE r = 0) (W : World) (hg : Glob W) :
    Calls Tryz.prog 10 #[.string ⟨(bytesR r).toArray⟩] W fun e w' => ∃ (R : RP) (cs : Array Value), e = .returned (.tuple #[.agg cs, .nilIface]) ∧ cs = (encP R).toArray ∧ RdP w' R ∧ sameW R r = true ∧ repW R = 0 ∧ FewI R ∧ Below W.heap.size W w' :=
  (pt_take hp (put_all hp).2.2 W hg).mono fun e w' ⟨R, cs, h1, h2, h3, h4, h5, h6, h7⟩ => ⟨R, cs, h1, h2, h3, h4, by unfold repW; rw [if_pos h5], h6, h7⟩
theorem ErrI.v {w : World} {c : Nat} {ev : Value} (h : ErrI w c ev) : ∃ ops, ErrV w ops (c : Int) ev := by
  rcases h with ⟨rfl, rfl⟩ | ⟨h, ops, _, hch⟩
  · exact ⟨[], Or.inl ⟨rfl, rfl, rfl⟩⟩
  · exact ⟨_, Or.inr ⟨by omega, hch⟩⟩
/-- Take, with its cells as one letter. -/
theorem im_take (s : ByteArray) (hs : s.size ≤ 1000000) (W : World) (hg : Glob W) :
    Calls Tryz.prog 10 #[.string s] W fun e w' => ∃ (R : RP) (c : Nat) (cs : Array Value) (ev : Value) (ops : List ByteArray), e = .returned (.tuple #[.agg cs, ev]) ∧ cs = (encP R).toArray ∧ TkO s.data.toList R c ∧ RdP w' R ∧ ErrV w' ops c ev ∧ Below W.heap.size W w' :=
  (imTake_any s W hg hs).mono fun e w' ⟨R, c, ev, he, ht, hr, herr, hb⟩ => by
    obtain ⟨ops, hv⟩ := herr.v
    exact ⟨R, c, _, ev, ops, he, rfl, ht, hr, hv, hb⟩
theorem tkO_ne {s : List UInt8} {R : RP} {c : Nat} (h : TkO s R c) (hn : tkE s ≠ 0) : c ≠ 0 := by
  rcases h with ⟨_, h2, _⟩ | ⟨h1, _⟩ | ⟨h1, _⟩
  · rw [h2]; exact hn
  · exact absurd h1 hn
  · exact absurd h1 hn
theorem dat_cut (s : ByteArray) : (s.extract 0 (s.size - 1)).data.toList = s.data.toList.take (s.data.toList.length - 1) := by
  rw [extract_list]
  simp
theorem dat_more (s t : ByteArray) : (s ++ t).data.toList = s.data.toList ++ t.data.toList := by simp
/-- With something behind it. -/
theorem tk_more {s t : ByteArray} (h : tkE s.data.toList = 0) (ht : t.toList.isEmpty = false) : tkE (s ++ t).data.toList ≠ 0 := by
  rw [Lib.toList_data] at ht
  rw [dat_more]
  obtain ⟨_, h2, h3, _⟩ := tk_back h
  rw [h2]
  exact tk_rest (by intro e; rw [e] at ht; simp at ht) h3
theorem dat_none {s t : ByteArray} (ht : t.toList.isEmpty = true) : (s ++ t).data.toList = s.data.toList := by
  rw [Lib.toList_data] at ht
  rw [dat_more]
  have e0 : t.data.toList = [] := by simpa using ht
  rw [e0, List.append_nil]
theorem rp_same (W : World) : Calls Tryz.prog 14 #[.agg (encP (default : RP)).toArray, .agg (encP (default : RP)).toArray] W fun e w' => e = .returned (.bool true) ∧ Below W.heap.size W w' := by
  have := rSameW_any default default W (rdP_default W) (rdP_default W) fewC_default fewC_default (by decide) (by decide) (by decide) (by decide)
  rw [sameW_self] at this
  exact this
theorem im_put {R : RP} {s : ByteArray} (h : TkO s.data.toList R 0) (W : World) (hr : RdP W R) :
    Calls Tryz.prog 8 #[.agg (encP R).toArray] W fun e w' => e = .returned (.tuple #[.string s, .nilIface]) ∧ Below W.heap.size W w' := by
  obtain ⟨_, h2, h3, h4, _⟩ := tk_put h
  refine (imPut_any R W hr h2.c).mono ?_
  rintro e w' ⟨h | ⟨h, _⟩, hb⟩
  · rw [h3] at h; exact ⟨h.2, hb⟩
  · exact absurd h4 h
theorem tk_ten {R : RP} {s : ByteArray} (h : TkO s.data.toList R 0) : 10 ≤ s.size := by
  have := bytes_ten R
  rw [(tk_put h).2.2.1] at this
  simpa using this
end Go.Proofs.YtnmojicfmcbgmaaGreatDoor
