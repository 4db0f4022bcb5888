/- The law ImagePuts returns true for every input, and changes nothing that lay there; the variable errors.errorType holds what the program's text lays into it. No other condition. -/
import Derived.Test.YtnmojicfmcbgmaaGreatDoorQImK
import Derived.Test.YtnmojicfmcbgmaaGreatDoorQLawG
import Derived.Test.YtnmojicfmcbgmaaGreatDoorQOpenP
namespace Go.Proofs.YtnmojicfmcbgmaaGreatDoor.imagePuts
open Go.ChangeShapes Go.WideShapes Go.ChangeAt Go.RowKit Go.Sort Nb
set_option maxRecDepth 100000
attribute [local go_sem ↓] qbc qba
attribute [local go_sem] qbt qbq qbz qfh qhm
set_option maxHeartbeats 16000000 in
theorem walk (r:RP) (s:ByteArray) (w:World) (hg:Glob w) (ra:RdP w r) :
 Calls Tryz.prog 3 #[.agg (encP r).toArray,.string s] w fun e w'=>e=.returned (.bool true)∧Below w.heap.size w w':=by
 have HG:=hI hg
 have HR:=hI ra
 obtain ⟨cs,hcs⟩:∃ cs,cs=(encP r).toArray:=⟨_,rfl⟩
 have HI:cs.size=18:=by rw [hcs];rfl
 have H1:qbw cs=true:=by rw [hcs];exact qfb r
 have HCS:=hI hcs
 rw [←hcs]
 have HFW:Hid (∀ W,Below w.heap.size w W→Calls Tryz.prog 6 #[.agg cs] W fun e w'=>e=.returned (.bool (fewW r))∧Below W.heap.size W w'):=fun W hb=>by rw [HCS.out];exact few34_any r W (HR.out.below hb)
 obtain ⟨g1,hg1⟩:∃ g,fewW r=g:=⟨_,rfl⟩
 rw [hg1] at HFW
 have HF1:=hI hg1
 have B0:=hI (bel1 w (.cells cs 35))
 have X0:Hid ((w.alloc (.cells cs 35)).heap[w.heap.size]?=some (.cells cs 35 (0,0))):=qah w _
 obtain ⟨bg,hbg⟩:∃ g,decide ((19000:Int) < (s.size:Int))=g:=⟨_,rfl⟩
 have HBG:=hI hbg
 clear hcs hg ra hg1
 go_enter Tryz.func3,Tryz.ntmps3
 go_upto_region 1 with (fail)
 obtain ⟨p1,hp1⟩:∃ p,p=w.heap.size:=⟨_,rfl⟩
 obtain ⟨w0,hw0⟩:∃ W,W=w.alloc (.cells cs 35):=⟨_,rfl⟩
 rw [←hp1] at X0 ⊢
 rw [←hw0] at X0 B0 ⊢
 have HP1:=hI hp1
 clear hw0 hp1
 have x1:=qav X0.out HI
 have x2:=qbh X0.out
 go_wp2_with fail
 refine (HFW.out _ B0.out).mono ?_
 rintro _ w1 ⟨rfl,hb1⟩
 have B1:=hI (qac B0.out hb1)
 have X1:=hI ((hb1.block _ (qaa X0.out)).trans X0.out)
 clear hb1 x1 x2 X0 B0 HFW
 cases g1
 ·go_wp2_with fail
  refine (qko _ (HG.out.below B1.out)).mono ?_
  rintro _ w2 ⟨rfl,hb2⟩
  have B2:=hI (qac B1.out hb2)
  clear hb2
  go_wp2
  go_ret
  exact ⟨rfl,B2.out⟩
 cases bg
 rotate_left
 ·go_wp2_with fail
  refine (qko _ (HG.out.below B1.out)).mono ?_
  rintro _ w2 ⟨rfl,hb2⟩
  have B2:=hI (qac B1.out hb2)
  clear hb2
  go_wp2
  go_ret
  exact ⟨rfl,B2.out⟩
 have HS:Hid (s.size≤1000000):=by have h1:=of_decide_eq_false HBG.out;show _≤_;omega
 have HFC:=hI (fewW_c HF1.out)
 have HP:Hid (∀ W,Below w.heap.size w W→Calls Tryz.prog 8 #[.agg cs] W fun e w'=>∃ (v:Value) (ops:List ByteArray),e=.returned (.tuple #[.string (pbR r),v])∧ErrV w' ops (putE r) v∧Below W.heap.size W w'):=fun W hb=>by rw [HCS.out];exact ip_put r W (HR.out.below hb) HFC.out.1
 have HQ:Hid (∀ W,Below w.heap.size w W→Calls Tryz.prog 9 #[.agg cs] W fun e w'=>e=.returned (.tuple #[.string (pbR r),.int .i64 (putE r)])∧Below W.heap.size W w'):=fun W hb=>by rw [HCS.out];exact ip_rput r W (HR.out.below hb) HFC.out.1
 have HZ:Hid (∀ W,Below w.heap.size w W→Calls Tryz.prog 13 #[.agg cs] W fun e w'=>e=.returned (.int .i64 ((pbR r).size:Int))∧Below W.heap.size W w'):=fun W hb=>by rw [HCS.out];exact ip_size r W (HR.out.below hb) HFC.out.1
 obtain ⟨pb,hpb⟩:∃ y,pbR r=y:=⟨_,rfl⟩
 obtain ⟨pe,hpe⟩:∃ y,putE r=y:=⟨_,rfl⟩
 rw [hpb,hpe] at HP HQ
 rw [hpb] at HZ
 clear hpb hpe HF1
 have x1:=qav X1.out HI
 have x2:=qbh X1.out
 go_wp2_with fail
 refine (HP.out _ B1.out).mono ?_
 rintro _ w2 ⟨ve,ops,rfl,hve,hb2⟩
 have B2:=hI (qac B1.out hb2)
 have X2:=hI ((hb2.block _ (qaa X1.out)).trans X1.out)
 have V2:=hI hve
 clear hb2 x1 x2 X1 B1 HP hve
 have x1:=qav X2.out HI
 have x2:=qbh X2.out
 go_wp2_with fail
 refine (HQ.out _ B2.out).mono ?_
 rintro _ w3 ⟨rfl,hb3⟩
 have B3:=hI (qac B2.out hb3)
 have X3:=hI ((hb3.block _ (qaa X2.out)).trans X2.out)
 have V3:=hI (V2.out.below hb3)
 clear hb3 x1 x2 X2 B2 V2 HQ
 go_wp2_with fail
 refine (ip_take s HS.out _ (HG.out.below B3.out)).mono ?_
 rintro _ w4 ⟨R,c,ct,ev,rfl,hct,htk,hrt,hev,hb4⟩
 have HI2:ct.size=18:=by rw [hct];rfl
 have H2:qbw ct=true:=by rw [hct];exact qfb R
 have HCT:=hI hct
 have HTK:=hI htk
 have B4:=hI (qac B3.out hb4)
 have X4:=hI ((hb4.block _ (qaa X3.out)).trans X3.out)
 have V4:=hI (V3.out.below hb4)
 have T4:=hI hrt
 have E4:=hI hev
 clear hct htk hrt hev hb4 X3 B3 V3
 go_upto_region 6 with (fail)
 obtain ⟨q2,hq2⟩:∃ p,p=w4.heap.size:=⟨_,rfl⟩
 have hb5:=bel1 w4 (.cells ct 35)
 have Y5:Hid ((w4.alloc (.cells ct 35)).heap[w4.heap.size]?=some (.cells ct 35 (0,0))):=qah w4 _
 have X5:=hI ((hb5.block _ (qaa X4.out)).trans X4.out)
 have B5:=hI (qac B4.out hb5)
 have T5:=hI (T4.out.below hb5)
 have V5:=hI (V4.out.below hb5)
 have E5:=hI (E4.out.below hb5)
 obtain ⟨w5,hw5⟩:∃ W,W=w4.alloc (.cells ct 35):=⟨_,rfl⟩
 rw [←hw5,←hq2] at Y5
 rw [←hw5] at X5 B5 T5 V5 E5 ⊢
 rw [←hq2]
 clear hw5 hq2 hb5 X4 B4 T4 V4 E4
 go_wp2_with fail
 refine (ip_rtake s HS.out _).mono ?_
 rintro _ w6 ⟨R2,c2,cu,rfl,hcu,htk,hru,hb6⟩
 have HI3:cu.size=18:=by rw [hcu];rfl
 have H3:qbw cu=true:=by rw [hcu];exact qfb R2
 have HCU:=hI hcu
 have HTU:=hI htk
 obtain ⟨hcc,hsm⟩:=HTK.out.uniq HTU.out
 subst hcc
 have HSM:=hI hsm
 have B6:=hI (qac B5.out hb6)
 have X6:=hI ((hb6.block _ (qaa X5.out)).trans X5.out)
 have Y6:=hI ((hb6.block _ (qaa Y5.out)).trans Y5.out)
 have T6:=hI (T5.out.below hb6)
 have V6:=hI (V5.out.below hb6)
 have E6:=hI (E5.out.below hb6)
 have U6:=hI hru
 clear hcu htk hru hb6 hsm X5 Y5 B5 T5 V5 E5
 go_upto_region 7 with (fail)
 obtain ⟨q3,hq3⟩:∃ p,p=w6.heap.size:=⟨_,rfl⟩
 have hb7:=bel1 w6 (.cells cu 35)
 have Z7:Hid ((w6.alloc (.cells cu 35)).heap[w6.heap.size]?=some (.cells cu 35 (0,0))):=qah w6 _
 have X7:=hI ((hb7.block _ (qaa X6.out)).trans X6.out)
 have Y7:=hI ((hb7.block _ (qaa Y6.out)).trans Y6.out)
 have B7:=hI (qac B6.out hb7)
 have T7:=hI (T6.out.below hb7)
 have V7:=hI (V6.out.below hb7)
 have E7:=hI (E6.out.below hb7)
 have U7:=hI (U6.out.below hb7)
 obtain ⟨w7,hw7⟩:∃ W,W=w6.alloc (.cells cu 35):=⟨_,rfl⟩
 rw [←hw7,←hq3] at Z7
 rw [←hw7] at X7 Y7 B7 T7 V7 E7 U7 ⊢
 rw [←hq3]
 clear hw7 hq3 hb7 X6 Y6 B6 T6 V6 E6 U6
 go_wp2_with fail
 refine (qkn ops pe ve _ (HG.out.below B7.out) V7.out).mono ?_
 rintro _ w8 ⟨rfl,hb8⟩
 have X8:=hI ((hb8.block _ (qaa X7.out)).trans X7.out)
 have Y8:=hI ((hb8.block _ (qaa Y7.out)).trans Y7.out)
 have Z8:=hI ((hb8.block _ (qaa Z7.out)).trans Z7.out)
 have B8:=hI (qac B7.out hb8)
 have T8:=hI (T7.out.below hb8)
 have E8:=hI (E7.out.below hb8)
 have U8:=hI (U7.out.below hb8)
 clear hb8 X7 Y7 Z7 B7 T7 V7 E7 U7
 have x1:=qav X8.out HI
 have x2:=qbh X8.out
 go_wp2_with fail
 refine (HZ.out _ B8.out).mono ?_
 rintro _ w9 ⟨rfl,hb9⟩
 have Y9:=hI ((hb9.block _ (qaa Y8.out)).trans Y8.out)
 have Z9:=hI ((hb9.block _ (qaa Z8.out)).trans Z8.out)
 have B9:=hI (qac B8.out hb9)
 have T9:=hI (T8.out.below hb9)
 have E9:=hI (E8.out.below hb9)
 have U9:=hI (U8.out.below hb9)
 clear hb9 x1 x2 X8 Y8 Z8 B8 T8 E8 U8 HZ
 have HSA:Hid (Calls Tryz.prog 14 #[.agg ct,.agg cu] w9 fun e w'=>e=.returned (.bool true)∧Below w9.heap.size w9 w'):=by
  have h1:=tkO_few HTK.out
  have h2:=tkO_few HTU.out
  have:=qnd R R2 w9 T9.out U9.out h1.1 h2.1 h1.2.1 h1.2.2 h2.2.1 h2.2.2
  rw [HSM.out,←HCT.out,←HCU.out] at this
  exact this
 have x1:=qav Y9.out HI2
 have x2:=qbh Y9.out
 have y1:=qav Z9.out HI3
 have y2:=qbh Z9.out
 go_wp2_with fail
 refine HSA.out.mono ?_
 rintro _ w10 ⟨rfl,hb10⟩
 have B10:=hI (qac B9.out hb10)
 have E10:=hI (E9.out.below hb10)
 clear hb10 x1 x2 y1 y2 HSA Y9 Z9 B9 T9 E9 U9
 go_wp2_with fail
 refine (ip_code _ (HG.out.below B10.out) E10.out).mono ?_
 rintro _ w11 ⟨rfl,hb11⟩
 have B11:=hI (qac B10.out hb11)
 have E11:=hI (E10.out.below hb11)
 clear hb11 B10 E10
 by_cases hc:c=0
 ·subst hc
  go_wp2_with fail
  refine (qko _ (HG.out.below B11.out)).mono ?_
  rintro _ w12 ⟨rfl,hb12⟩
  have B12:=hI (qac B11.out hb12)
  clear hb12
  go_wp2
  go_ret
  exact ⟨rfl,B12.out⟩
 ·have hcn:((c:Int) == 0)=false:=by simpa using hc
  have HC:=hI hc
  clear hc
  go_wp2_with fail
  refine (ip_at HC.out _ (HG.out.below B11.out) E11.out).mono ?_
  rintro _ w12 ⟨rfl,hb12⟩
  have B12:=hI (qac B11.out hb12)
  clear hb12 B11 E11
  go_wp2_with fail
  refine (qko _ (HG.out.below B12.out)).mono ?_
  rintro _ w13 ⟨rfl,hb13⟩
  have B13:=hI (qac B12.out hb13)
  clear hb13
  go_wp2
  go_ret
  exact ⟨rfl,B13.out⟩
set_option maxRecDepth 100000 in
theorem lifted (os:Os) (started:os.Started) (H:Type) (enc:TypeId×Value→H) :
 ReturnsInHanded {} Tryz.checked os 3 .any (fun w args=>(Rows.imagePutsSpec.pre enc Tryz.prog Tryz.f3 [] false w args∧laidMetH Tryz.prog qyl w)∧sizedMet enc Tryz.prog Tryz.f3 (OpenSpec.ofChange Rows.imagePutsSpec) false w args)
  (Rows.imagePutsSpec.post enc Tryz.prog Tryz.f3 false true false false):=by
 refine returnsInHanded_of_change_and (C:=Tryz.checked) (X:=fun w _=>laidMetH Tryz.prog qyl w) (fun _ _ _ hh h=>h.of_heap hh) own started (by kernel_rfl) Tryz.func3
  (ChangeSpec.witness_at (enc:=enc) (C:=Tryz.checked) (os:=os) (X:=fun w _=>laidMetH Tryz.prog qyl w) false (qqy os) #[.agg #[.int .i64 0,.int .i64 0,.int .i64 0,.int .i64 0,.int .i64 0,.int .i64 0,.int .i64 0,.slice none 0 0,.slice none 0 0,.slice none 0 0,.slice none 0 0,.slice none 0 0,.slice none 0 0,.int .i64 0,.int .i64 0,.int .i64 0,.slice none 0 0,.slice none 0 0],.string ⟨#[]⟩] 8 rfl (by kernel_rfl) (by kernel_rfl) (by kernel_rfl) (by kernel_rfl) (by kernel_rfl) (qoy os _)) ?_
 intro W base args ds gs before hval0 hW _ _ hL _
 have hval:∀ (j:Nat) t v,Tryz.f3.params[j]?=some t→args[j]?=some v→Value.okWide Tryz.prog W .any base t v:=hval0
 have hW':=hW
 obtain ⟨p,q,hA0,hV,rfl,_,_⟩:=hW
 have hA:DataW.TrodAll enc Tryz.prog W 0 (fun _=>true) true Tryz.f3.params.toList args.toList ds p:=hA0
 rw [Tryz.params3] at hA hval
 have hg:=qqx hL
 obtain ⟨v0,v1,d0,d1,p0,p1,rfl,rfl,rfl,h0,h1⟩:=trodAll_two hA
 obtain ⟨rfl,rfl⟩:=trodVars_none hV
 obtain ⟨m0,rfl,ra0⟩:=open_rep (hval 0 35 v0 rfl rfl) h0
 obtain ⟨s1,rfl,rfl,rfl,-⟩:=ChangeMaps.open_string Tryz.underlying9 (hval 1 9 v1 rfl rfl) h1
 refine (walk m0 s1 W hg ra0).mono fun e W' ⟨he,hb⟩=>?_
 subst he
 exact ⟨_,rfl,law_post (tb:=4) laidOut (by decide +kernel) rfl hW' rfl rfl rfl rfl Tryz.underlying4 hb⟩
theorem over:Rows.imagePutsRow.holds Tryz.pinned (OpenSpec.ofChange Rows.imagePutsSpec) :=
 OpenClaim.holds_of_wide 3 Tryz.f3 rfl rfl rfl rfl rfl rfl rfl ⟨rfl,rfl,rfl,rfl,rfl⟩ rfl rfl rfl rfl rfl (by kernel_rfl) Tryz.func3 (by kernel_rfl)
  (of_decide_eq_true (by kernel_rfl)) (by unfold Func.isWrapper;first | (rw [if_pos (by decide +kernel)];kernel_rfl) | (rw [if_neg (by decide +kernel)];exact ⟨rfl,rfl⟩))
  (fun os started H enc _=>lifted os started H enc)
theorem noStand : ∀ (f : FuncId) (fn : Func), Tryz.prog.funcNamed "rubato/rubatolaw36.ImagePuts" = some f → Tryz.prog.funcs[f]? = some fn → true = Tryz.prog.looks [] ∧ ∀ (j : Nat) t, fn.params[j]? = some t → Tryz.prog.wantsStandIn t = false := fun f fn hf hfn => by
 obtain rfl : f = 3 := Option.some.inj ((show Tryz.prog.funcNamed "rubato/rubatolaw36.ImagePuts" = some 3 by kernel_rfl).symm.trans hf) |>.symm
 obtain rfl:fn = Tryz.f3:=(Option.some.inj (Tryz.func3.symm.trans hfn)).symm
 refine ⟨by kernel_rfl,fun j t ht=>?_⟩
 rw [Tryz.params3] at ht
 have hs:t = 35∨t = 9:=by
  rcases j with _ | j
  ·(left;simpa using ht.symm)
  rcases j with _ | j
  ·(right;simpa using ht.symm)
  simp at ht
 rcases hs with rfl | rfl
 ·exact (show Tryz.prog.wantsStandIn 35 = false by kernel_rfl)
 ·exact (show Tryz.prog.wantsStandIn 9 = false by kernel_rfl)
theorem proved:Rows.ImagePutsCardSaid :=
 Claim7.holds_tied_plain_at .later [] [.handle] true Rows.imagePutsCard.stood.harness true over (fun _ h=>by cases h) (by kernel_rfl) (fun _ h=>by cases h) imagePuts_row_tie rfl ⟨rfl,rfl⟩ (by kernel_rfl) (by kernel_rfl) noStand (by kernel_rfl)
#print axioms proved
end Go.Proofs.YtnmojicfmcbgmaaGreatDoor.imagePuts
