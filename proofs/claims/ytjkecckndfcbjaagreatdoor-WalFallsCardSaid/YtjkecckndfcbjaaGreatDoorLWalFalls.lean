/- Wherever the power goes, and whatever is left: opened again a log tells the last point's state, or that of the one at which the power went, and of the events since all that were synced, and perhaps more of those that were added; unless torn bytes make a frame that was not there whole; for every input (the card ties the variable errors.errorType to the program's text). -/
import Derived.Deep.Fields
import Derived.Deep.Slices
import Derived.Lib.SmallJoins
import Derived.Test.YtjkecckndfcbjaaGreatDoorKDonA
import Derived.Test.YtjkecckndfcbjaaGreatDoorKWawB
import Derived.Test.YtjkecckndfcbjaaGreatDoorKPasB
import Derived.Test.YtjkecckndfcbjaaGreatDoorKPasA
import Derived.Test.YtjkecckndfcbjaaGreatDoorKROpn
import Derived.Test.YtjkecckndfcbjaaGreatDoorKOpenW
import Derived.Test.YtjkecckndfcbjaaGreatDoorKLawG
import Derived.Test.YtjkecckndfcbjaaGreatDoorKOwnK
import Derived.Test.YtjkecckndfcbjaaGreatDoorKRecA
namespace Go.Proofs.YtjkecckndfcbjaaGreatDoor.walFalls
open Go.ChangeShapes Go.WideShapes Go.ChangeAt Go.RowKit Go.Sort Nb
set_option maxRecDepth 100000
theorem own_caps {W:World} {B:Nat} {A:Option Addr} {n c:Nat} {e:TypeId} {k:Nat} {xs:List Value} (h:W.ownsRow B e k (.slice A n c) n xs):n≤c∧(A=none→c=0)∧(A=none∨∃ b off,A=some ⟨b,off,none⟩):=by
 obtain ⟨_,⟨h1,h0⟩ | ⟨g,cap,cur,hv,hb,hh,hnc,hmx,hcur,htk⟩⟩:=h
 ·injection h1 with a b c
  subst a b c
  exact ⟨Nat.le_refl _,fun _=>rfl,Or.inl rfl⟩
 ·injection hv with a b c
  subst a c
  exact ⟨hnc,(fun h=>by cases h),Or.inr ⟨_,_,rfl⟩⟩
theorem own_out {W:World} {B g:Nat} {e:TypeId} {k n:Nat} {v:Value} {xs:List Value} (h:W.ownsRow B e k v n xs) (hg:g < B):∃ B',g < B'∧W.ownsRow B' e k v n xs:=⟨B,hg,h⟩
set_option maxHeartbeats 16000000 in
theorem walk (first:ByteArray) (A:Option Addr) (c:Nat) (d:Array AC) (fn:Int) (ca cb:CH) (w:World) (hg:Glob w) (ra1:RdK qlq 13 w.heap.size w A d) :
 Calls Tryz.prog 5 #[.string first,.slice A d.size c,.agg (.int .i64 fn :: (qgq ca ++ qgq cb)).toArray] w fun e w'=>e=.returned (.bool true)∧Below w.heap.size w w':=by
 have HGL:=hI (fun (W:World) (hb:Below w.heap.size w W)=>hg.below hb)
 have HAW:=hI (fun (W:World) (hb:Below w.heap.size w W)=>qmq W (hg.below hb))
 have HF:=hI (fun (W:World) (hb:Below w.heap.size w W)=>qrb A c d W (ra1.below hb |>.mono hb.size))
 have HRA:=hI ra1
 obtain ⟨g1,hg1⟩:∃ g,qra d=g:=⟨_,rfl⟩
 rw [hg1] at HF
 have HG1:=hI hg1
 clear hg ra1 hg1
 have HPA:=hI (fun (D:DK) (W:World) (h:D.ok) (ha:ca.trash.size≤2000000) (hb:cb.trash.size≤2000000)=>qyn D fn ca cb W h ha hb)
 have HBT:=hI (fun (D:DK) (g:Nat) (W:World) (h:DAt W g D) (hok:D.ok) (ha:ca.trash.size≤2000000) (hb:cb.trash.size≤2000000)=>boot_any D g ca cb W h hok ha hb)
 obtain ⟨ka,ta,ra⟩:=ca
 obtain ⟨kb,tb,rb⟩:=cb
 unfold qgq at HPA
 unfold qgq
 unfold chV at HBT
 simp only [List.cons_append,List.nil_append] at HPA ⊢
 dsimp only at HPA HBT
 go_enter Tryz.func5,Tryz.ntmps5
 go_upto_region 1 with fail
 generalize hv:w.alloc (.cells #[.int .i64 fn,.int .i64 ka,.string ta,.bool ra,.int .i64 kb,.string tb,.bool rb] 67)=v
 have HFV:Hid (v.heap[w.heap.size]?=some (.cells #[.int .i64 fn,.int .i64 ka,.string ta,.bool ra,.int .i64 kb,.string tb,.bool rb] 67 (0,0))):=by show _=_;rw [←hv];exact qao w _
 have HB0:Hid (Below w.heap.size w v):=by show Below _ _ _;rw [←hv];exact bel1 w _
 have KF:Hid (∀ W,Below v.heap.size v W→W.cell? ⟨w.heap.size,0,none⟩=some (.int .i64 fn)∧W.cell? ⟨w.heap.size,1,none⟩=some (.int .i64 ka)∧W.cell? ⟨w.heap.size,2,none⟩=some (.string ta)∧W.cell? ⟨w.heap.size,3,none⟩=some (.bool ra)∧W.cell? ⟨w.heap.size,4,none⟩=some (.int .i64 kb)∧W.cell? ⟨w.heap.size,5,none⟩=some (.string tb)∧W.cell? ⟨w.heap.size,6,none⟩=some (.bool rb)):=fun W hW=>qko ((hW.block _ (qaa HFV.out)).trans HFV.out)
 clear hv
 cases g1
 ·as_aux_lemma =>
   go_wp2_with (first | (go_at_call 6;refine (HF.out _ HB0.out).mono ?_;rintro e w1 ⟨rfl,hb1⟩;have HB1:=hI (qac HB0.out hb1);obtain ⟨f0,f1,f2,f3,f4,f5,f6⟩:=KF.out _ (qac (Below.refl _ _) hb1);clear hb1) | (go_at_call 7;refine (HAW.out _ HB1.out).mono ?_;rintro e w2 ⟨rfl,hb2⟩;have HB2:=hI (qac HB1.out hb2);clear hb2))
   go_ret
   exact ⟨rfl,HB2.out⟩
 by_cases z0:18000 < first.size
 ·have z0':decide ((18000:Int) < (first.size:Int))=true:=decide_eq_true (by omega)
  clear z0
  as_aux_lemma =>
   go_wp2_with (first | (go_at_call 6;refine (HF.out _ HB0.out).mono ?_;rintro e w1 ⟨rfl,hb1⟩;have HB1:=hI (qac HB0.out hb1);obtain ⟨f0,f1,f2,f3,f4,f5,f6⟩:=KF.out _ (qac (Below.refl _ _) hb1);clear hb1) | (go_at_call 7;refine (HAW.out _ HB1.out).mono ?_;rintro e w2 ⟨rfl,hb2⟩;have HB2:=hI (qac HB1.out hb2);clear hb2))
   go_ret
   exact ⟨rfl,HB2.out⟩
 have z0':decide ((18000:Int) < (first.size:Int))=false:=decide_eq_false (by omega)
 by_cases z1:fn < 1
 ·have z1':decide (fn < 1)=true:=decide_eq_true (by omega)
  clear z1
  as_aux_lemma =>
   go_wp2_with (first | (go_at_call 6;refine (HF.out _ HB0.out).mono ?_;rintro e w1 ⟨rfl,hb1⟩;have HB1:=hI (qac HB0.out hb1);obtain ⟨f0,f1,f2,f3,f4,f5,f6⟩:=KF.out _ (qac (Below.refl _ _) hb1);clear hb1) | (go_at_call 7;refine (HAW.out _ HB1.out).mono ?_;rintro e w2 ⟨rfl,hb2⟩;have HB2:=hI (qac HB1.out hb2);clear hb2))
   go_ret
   exact ⟨rfl,HB2.out⟩
 have z1':decide (fn < 1)=false:=decide_eq_false (by omega)
 by_cases z2:1000 < fn
 ·have z2':decide (1000 < fn)=true:=decide_eq_true (by omega)
  clear z2
  as_aux_lemma =>
   go_wp2_with (first | (go_at_call 6;refine (HF.out _ HB0.out).mono ?_;rintro e w1 ⟨rfl,hb1⟩;have HB1:=hI (qac HB0.out hb1);obtain ⟨f0,f1,f2,f3,f4,f5,f6⟩:=KF.out _ (qac (Below.refl _ _) hb1);clear hb1) | (go_at_call 7;refine (HAW.out _ HB1.out).mono ?_;rintro e w2 ⟨rfl,hb2⟩;have HB2:=hI (qac HB1.out hb2);clear hb2))
   go_ret
   exact ⟨rfl,HB2.out⟩
 have z2':decide (1000 < fn)=false:=decide_eq_false (by omega)
 by_cases z3:2000 < ta.size
 ·have z3':decide ((2000:Int) < (ta.size:Int))=true:=decide_eq_true (by omega)
  clear z3
  as_aux_lemma =>
   go_wp2_with (first | (go_at_call 6;refine (HF.out _ HB0.out).mono ?_;rintro e w1 ⟨rfl,hb1⟩;have HB1:=hI (qac HB0.out hb1);obtain ⟨f0,f1,f2,f3,f4,f5,f6⟩:=KF.out _ (qac (Below.refl _ _) hb1);clear hb1) | (go_at_call 7;refine (HAW.out _ HB1.out).mono ?_;rintro e w2 ⟨rfl,hb2⟩;have HB2:=hI (qac HB1.out hb2);clear hb2))
   go_ret
   exact ⟨rfl,HB2.out⟩
 have z3':decide ((2000:Int) < (ta.size:Int))=false:=decide_eq_false (by omega)
 by_cases z4:2000 < tb.size
 ·have z4':decide ((2000:Int) < (tb.size:Int))=true:=decide_eq_true (by omega)
  clear z4
  as_aux_lemma =>
   go_wp2_with (first | (go_at_call 6;refine (HF.out _ HB0.out).mono ?_;rintro e w1 ⟨rfl,hb1⟩;have HB1:=hI (qac HB0.out hb1);obtain ⟨f0,f1,f2,f3,f4,f5,f6⟩:=KF.out _ (qac (Below.refl _ _) hb1);clear hb1) | (go_at_call 7;refine (HAW.out _ HB1.out).mono ?_;rintro e w2 ⟨rfl,hb2⟩;have HB2:=hI (qac HB1.out hb2);clear hb2))
   go_ret
   exact ⟨rfl,HB2.out⟩
 have z4':decide ((2000:Int) < (tb.size:Int))=false:=decide_eq_false (by omega)
 obtain ⟨k,rfl⟩:∃ k:Nat,fn=(k:Int):=⟨fn.toNat,by omega⟩
 have hk1:1≤k:=by omega
 have hk2:k≤1000:=by omega
 obtain ⟨l0,hop,hdv,hsh,har⟩:=qxf first (by omega)
 obtain ⟨hd40,hsm⟩:=qev.1 HG1.out
 have hln:d.toList.length≤40:=by simpa using hd40
 have hlv:=(hdv.iv.live hsh).2.1
 have hdva:=first_arm hdv (show k≤1000000 by omega)
 have HARM:Hid (armQ l0.d (k:Int)=((armL l0 k).d,0)):=by
  show _=_
  unfold armQ
  rw [if_neg (by dsimp only at hlv;rw [hlv];simp),if_neg (by omega)]
  rfl
 have HARR:Hid (rArmQ (rdOf l0.d) (k:Int)=(rdOf (armL l0 k).d,0)):=by
  show _=_
  unfold rArmQ
  rw [if_neg (by show ¬ l0.d.dead=true;dsimp only at hlv;rw [hlv];simp),if_neg (by omega)]
  rfl
 have HOK0:Hid (l0.d.ok):=hdv.iv.ok
 have HOP:=hI hop
 have HDVA:=hI hdva
 have HD40:=hI hd40
 have HSM:=hI hsm
 obtain ⟨hp1,hp2,hp3,hp4⟩:=few_pp hdva d.toList hln
 have HKD:Hid (NP (runD (zP first,armL l0 k) d.toList).2.d.f0 ⟨ka,ta,ra⟩→NP (runD (zP first,armL l0 k) d.toList).2.d.f1 ⟨kb,tb,rb⟩→∃ S:PP,KeptP (runD (zP first,armL l0 k) d.toList).1 S.st S.evs∧S.evs.length≤100∧KD d.toList.length S 0 (qia (runD (zP first,armL l0 k) d.toList).2.d ⟨ka,ta,ra⟩ ⟨kb,tb,rb⟩)):=fun h1 h2=>falls_kd hdva d.toList hln _ _ h1 h2
 rw [show d.toList.length=d.size by simp] at HKD
 have ht1:ta.size≤2000000:=by omega
 have ht2:tb.size≤2000000:=by omega
 clear hop hdv hsh har hd40 hsm hln hlv hdva z0 z1 z2 z3 z4
 go_wp2_with (go_at_call 6;refine (HF.out _ HB0.out).mono ?_;rintro e w1 ⟨rfl,hb1⟩;have HV1:=hI hb1;obtain ⟨f0,f1,f2,f3,f4,f5,f6⟩:=KF.out _ hb1;clear hb1)
 clear HF f0 f1 f2 f3 f4 f5 f6
 refine (qlm 900000 w1 (by omega) (by omega)).mono ?_
 rintro e w2 ⟨g,hgw,rfl,hd2,hb2⟩
 have hgv:v.heap.size≤g:=Nat.le_trans HV1.out.size hgw
 have hvw:=HB0.out.size
 have hgw2:w.heap.size≤g:=by omega
 have D2:Hid (DAt w2 g (newD 900000)):=hd2
 have HV2:=hI (qac HV1.out hb2)
 clear hd2 hb2 hgw
 go_wp2_with fail
 refine (qvg 900000 w2).mono ?_
 rintro e w3 ⟨rfl,hb3⟩
 have D3:=hI (D2.out.below hb3)
 have HV3:=hI (qac HV2.out hb3)
 clear hb3 D2
 rw [show (qxt 900000).1=qop 900000 from rfl,show (qxt 900000).2=0 from rfl]
 unfold rdV qcc qop
 dsimp only
 go_wp2_with fail
 refine (qfe (newD 900000) g first _ (HGL.out _ (qac HB0.out (qab HV3.out _))) (D3.out.below (bel1 w3 _)) (qmr 900000 (by omega) (by omega)) (Nat.zero_le _)).mono ?_
 rintro e w4 hx
 rw [HOP.out] at hx
 obtain ⟨h,A4,c4,rfl,hh,x4,-,b4⟩:=qff hx rfl
 have hhv:v.heap.size≤h:=by
  have h1:=HV3.out.size
  have h2:=(bel1 w3 (.cells #[.string ⟨#[]⟩,.string ⟨#[]⟩,.string ⟨#[]⟩,.string ⟨#[]⟩,.bool false,.bool false,.int .i64 900000,.int .i64 0,.int .i64 0,.bool false] 33)).size
  omega
 have hgl3:=D3.out.lt
 have HX4:Hid (w4.heap[w3.heap.size]?=some (.cells #[.string ⟨#[]⟩,.string ⟨#[]⟩,.string ⟨#[]⟩,.string ⟨#[]⟩,.bool false,.bool false,.int .i64 900000,.int .i64 0,.int .i64 0,.bool false] 33 (0,0))):=b4.heap (qao w3 _) (by omega)
 have X4:=hI x4
 have HV4:=hI (b4.below (qab HV3.out (.cells #[.string ⟨#[]⟩,.string ⟨#[]⟩,.string ⟨#[]⟩,.string ⟨#[]⟩,.bool false,.bool false,.int .i64 900000,.int .i64 0,.int .i64 0,.bool false] 33)) hgv (qab HV3.out _).size)
 clear hx hh x4 b4 D3
 obtain ⟨p0,p1,p2,p3,p4,p5,p6,p7,p8,p9⟩:=qat HX4.out
 go_wp2_with fail
 have HRO:Hid (Calls Tryz.prog 11 #[.agg #[.string ⟨#[]⟩,.string ⟨#[]⟩,.string ⟨#[]⟩,.string ⟨#[]⟩,.bool false,.bool false,.int .i64 900000,.int .i64 0,.int .i64 0,.bool false],.string first] w4 (qmh (rlOf l0) first [] 0 w4)):=by
  have h:=qrw (newD 900000) first w4 (qmr 900000 (by omega) (by omega)) (Nat.zero_le _)
  rw [HOP.out] at h
  exact h
 refine HRO.out.mono ?_
 rintro e w5 ⟨v5,rfl,-,hb5⟩
 have X5:=hI (X4.out.below hb5)
 have HV5:=hI (qac HV4.out hb5)
 obtain ⟨lx,hlx⟩:∃ y,rlOf l0=y:=⟨_,rfl⟩
 have HRX:Hid (rdOf l0.d=lx.d∧l0.file=lx.file∧l0.ep=lx.ep∧l0.sq=lx.sq∧l0.shut=lx.shut):=by show _∧_∧_∧_∧_;rw [←hlx];exact ⟨rfl,rfl,rfl,rfl,rfl⟩
 rw [hlx]
 clear hlx
 obtain ⟨⟨xa,xb,xc,xe,xh,xk,xR,xO,xM,xD⟩,xf,xp,xq,xs⟩:=lx
 dsimp only at HRX
 rw [qch]
 clear hb5 HRO X4 HX4 HV4 p0 p1 p2 p3 p4 p5 p6 p7 p8 p9
 obtain ⟨lar,hlar⟩:∃ y,rdOf (armL l0 k).d=y:=⟨_,rfl⟩
 have HRAR:Hid (∀ W,Calls Tryz.prog 20 #[.agg #[.string xa,.string xb,.string xc,.string xe,.bool xh,.bool xk,.int .i64 (xR:Int),.int .i64 (xO:Int),.int .i64 (xM:Int),.bool xD],.int .i64 (k:Int)] W fun e w'=>e=.returned (.tuple #[rdV lar,.int .i64 0])∧Below W.heap.size W w'):=fun W=>by
  have h:=rArm_any (rdOf l0.d) (k:Int) W
  unfold qgp at h
  rw [HARR.out,HRX.out.1,hlar] at h
  exact h
 have HDN:Hid (∀ W,Below w.heap.size w W→LAt W h g (armL l0 k)→Calls Tryz.prog 12 #[.pointer (some ⟨h,0,none⟩),.pointer (some ⟨g,0,none⟩),rdV lar,.agg #[.string xa,.string xb,.string xc,.string xe,.bool xh,.bool xk,.int .i64 (xR:Int),.int .i64 (xO:Int),.int .i64 (xM:Int),.bool xD,.int .i64 (xf:Int),.int .i64 (xp:Int),.int .i64 (xq:Int),.bool xs],.string first,.slice A d.size c] W (DoneP h g (runD (zP first,armL l0 k) d.toList) W)):=fun W hb hx=>by
  have:=qus (armL l0 k) ⟨xa,xb,xc,xe,xh,xk,xR,xO,xM,xD⟩ h g w.heap.size 3 first A c d W (HGL.out W hb) hx hgw2 (by omega) (HRA.out.below hb) HDVA.out (by omega) HD40.out (fun i hi=>(HSM.out i hi).1)
  rw [hlar,show (armL l0 k).file=xf from HRX.out.2.1,show (armL l0 k).ep=xp from HRX.out.2.2.1,show (armL l0 k).sq=xq from HRX.out.2.2.2.1,show (armL l0 k).shut=xs from HRX.out.2.2.2.2,qch] at this
  exact this
 clear HARR HRX hlar HDVA HD40 HSM HRA HOP
 obtain ⟨wa,wb,wc,we,wh,wk,wR,wO,wM,wD⟩:=lar
 unfold rdV qcc at HRAR HDN
 dsimp only at HRAR HDN
 have HAR:Hid (∀ W,LAt W h g l0→Calls Tryz.prog 19 #[.pointer (some ⟨g,0,none⟩),.int .i64 (k:Int)] W fun e w'=>e=.returned .nilIface∧LAt w' h g (armL l0 k)∧But g W w'):=fun W hx=>by
  refine (arm_any l0.d g (k:Int) W hx.dsk HOK0.out).mono ?_
  rintro e w' ⟨he,hd,hb⟩
  rw [HARM.out] at he hd
  obtain ⟨v,rfl,⟨-,rfl⟩ | ⟨h1,-⟩⟩:=qyw he
  ·exact ⟨rfl,hx.disk hb hd,hb⟩
  ·exact absurd rfl h1
 generalize runD (zP first,armL l0 k) d.toList=S at HKD HDN hp1 hp2 hp3 hp4
 obtain ⟨S,lz⟩:=S
 dsimp only at HKD hp1 hp2 hp3 hp4
 have HXB:Hid ((w5.alloc (.cells #[.string xa,.string xb,.string xc,.string xe,.bool xh,.bool xk,.int .i64 (xR:Int),.int .i64 (xO:Int),.int .i64 (xM:Int),.bool xD,.int .i64 (xf:Int),.int .i64 (xp:Int),.int .i64 (xq:Int),.bool xs] 41)).heap[w5.heap.size]?=some (.cells #[.string xa,.string xb,.string xc,.string xe,.bool xh,.bool xk,.int .i64 (xR:Int),.int .i64 (xO:Int),.int .i64 (xM:Int),.bool xD,.int .i64 (xf:Int),.int .i64 (xp:Int),.int .i64 (xq:Int),.bool xs] 41 (0,0))):=by show _=_;exact qao w5 _
 have hgx:g≠w5.heap.size:=by have:=X5.out.ltg;omega
 have hhx:h≠w5.heap.size:=by have:=X5.out.lth;omega
 have hvx:v.heap.size≤w5.heap.size:=by have:=HV5.out.size;omega
 obtain ⟨f0,f1,f2,f3,f4,f5,f6⟩:=KF.out _ (qab HV5.out (.cells #[.string xa,.string xb,.string xc,.string xe,.bool xh,.bool xk,.int .i64 (xR:Int),.int .i64 (xO:Int),.int .i64 (xM:Int),.bool xD,.int .i64 (xf:Int),.int .i64 (xp:Int),.int .i64 (xq:Int),.bool xs] 41))
 go_wp2_with (go_at_call 19;refine (HAR.out _ (X5.out.below (bel1 w5 _))).mono ?_;rintro e w6 ⟨rfl,x6,b6⟩;have X6:=hI x6;have HX6:=hI (b6.heap HXB.out (Ne.symm hgx));have HV6:=hI (b6.below (qab HV5.out (.cells #[.string xa,.string xb,.string xc,.string xe,.bool xh,.bool xk,.int .i64 (xR:Int),.int .i64 (xO:Int),.int .i64 (xM:Int),.bool xD,.int .i64 (xf:Int),.int .i64 (xp:Int),.int .i64 (xq:Int),.bool xs] 41)) hgv (qab HV5.out _).size);clear x6 b6;obtain ⟨m0,m1,m2,m3,m4,m5,m6⟩:=KF.out _ HV6.out;obtain ⟨p0,p1,p2,p3,p4,p5,p6,p7,p8,p9,p10,p11,p12,p13⟩:=qaf HX6.out)
 refine (HRAR.out _).mono ?_
 rintro e w7 ⟨rfl,hb7⟩
 have X7:=hI (X6.out.below hb7)
 have HX7:=hI ((hb7.block _ (qaa HX6.out)).trans HX6.out)
 have HV7:=hI (qac HV6.out hb7)
 have hxl7:w5.heap.size < w7.heap.size:=qaa HX7.out
 clear hb7 HRAR X6 HX6 HV6 HAR HXB f0 f1 f2 f3 f4 f5 f6 m0 m1 m2 m3 m4 m5 m6 p0 p1 p2 p3 p4 p5 p6 p7 p8 p9 p10 p11 p12 p13
 obtain ⟨p0,p1,p2,p3,p4,p5,p6,p7,p8,p9,p10,p11,p12,p13⟩:=qaf HX7.out
 go_wp2_with fail
 refine (HDN.out _ (qac HB0.out (qab HV7.out _)) (X7.out.below (bel1 w7 _))).mono ?_
 rintro e w8 ⟨A6,c6,rfl,hrow,x8,b8⟩
 have D8:Hid (DAt w8 g lz.d):=x8.dsk
 have HV8:=hI (b8.below (qab HV7.out (.cells #[.string wa,.string wb,.string wc,.string we,.bool wh,.bool wk,.int .i64 (wR:Int),.int .i64 (wO:Int),.int .i64 (wM:Int),.bool wD] 33)) hgv hhv (qab HV7.out _).size)
 have hg7:g < w7.heap.size:=X7.out.ltg
 obtain ⟨B6,hgB6,hrow⟩:=own_out hrow (X7.out.below (bel1 w7 _)).ltg
 have HROW:=hI hrow
 dsimp only at HROW
 obtain ⟨ly,hly⟩:∃ y,rlOf lz=y:=⟨_,rfl⟩
 have HLD:Hid (rdOf lz.d=ly.d):=by show _=_;rw [←hly];rfl
 rw [hly]
 have HSM:Hid (∀ W,Below w.heap.size w W→DAt W g lz.d→Calls Tryz.prog 17 #[.pointer (some ⟨g,0,none⟩),rdV ly.d] W fun e w'=>e=.returned (.bool true)∧Below W.heap.size W w'):=fun W hb hd=>by
  have:=qym lz.d g W (HGL.out W hb) hd hp3 (by omega)
  rw [HLD.out] at this
  exact this
 have HPS:=hI (fun W=>HPA.out lz.d W hp3 ht1 ht2)
 rw [HLD.out] at HPS
 clear HPA hly HLD x8 b8 hrow HDN X7 HV7 HX7 p0 p1 p2 p3 p4 p5 p6 p7 p8 p9 p10 p11 p12 p13
 obtain ⟨⟨ya,yb,yc,ye,yh,yk,yR,yO,yM,yD⟩,yf,yp,yq,ys⟩:=ly
 rw [qch]
 unfold rdV qcc at HSM HPS
 dsimp only at HSM HPS
 go_upto_region 13 with fail
 generalize hw9:(w8.alloc (.cells #[.string S.st,.slice A6 (evA S.evs).size c6,.int .i64 (S.safe:Int),.string S.torn,.bool S.lost] 45)).alloc (.cells #[.string ya,.string yb,.string yc,.string ye,.bool yh,.bool yk,.int .i64 (yR:Int),.int .i64 (yO:Int),.int .i64 (yM:Int),.bool yD,.int .i64 (yf:Int),.int .i64 (yp:Int),.int .i64 (yq:Int),.bool ys] 41)=w9
 obtain ⟨qp,hqp⟩:∃ n,n=w8.heap.size:=⟨_,rfl⟩
 rw [←hqp]
 have hb9:Below w8.heap.size w8 w9:=by rw [←hw9];exact qab (bel1 w8 _) _
 have HP9:Hid (w9.heap[qp]?=some (.cells #[.string S.st,.slice A6 (evA S.evs).size c6,.int .i64 (S.safe:Int),.string S.torn,.bool S.lost] 45 (0,0))):=by rw [←hw9,hqp];exact (qbf w8 _ _).1
 have HZ9:Hid (w9.heap[qp + 1]?=some (.cells #[.string ya,.string yb,.string yc,.string ye,.bool yh,.bool yk,.int .i64 (yR:Int),.int .i64 (yO:Int),.int .i64 (yM:Int),.bool yD,.int .i64 (yf:Int),.int .i64 (yp:Int),.int .i64 (yq:Int),.bool ys] 41 (0,0))):=by rw [←hw9,hqp];exact (qbf w8 _ _).2
 have D9:=hI (D8.out.below hb9)
 have HV9:=hI (qac HV8.out hb9)
 have HR9:=hI (qas HROW.out hb9)
 have hgp:g < qp:=by rw [hqp];exact D8.out.lt
 clear hqp hw9 hb9 D8 HV8 HROW
 obtain ⟨p0,p1,p2,p3,p4,p5,p6,p7,p8,p9,p10,p11,p12,p13⟩:=qaf HZ9.out
 go_wp2_with fail
 refine (HSM.out _ (qac HB0.out HV9.out) D9.out).mono ?_
 rintro e w10 ⟨rfl,hb10⟩
 have HP10:=hI ((hb10.block _ (qaa HP9.out)).trans HP9.out)
 have HZ10:=hI ((hb10.block _ (qaa HZ9.out)).trans HZ9.out)
 have D10:=hI (D9.out.below hb10)
 have HV10:=hI (qac HV9.out hb10)
 have HR10:=hI (qas HR9.out hb10)
 clear hb10 HP9 HZ9 D9 HV9 HR9 HSM p0 p1 p2 p3 p4 p5 p6 p7 p8 p9 p10 p11 p12 p13
 obtain ⟨p0,p1,p2,p3,p4,p5,p6,p7,p8,p9,p10,p11,p12,p13⟩:=qaf HZ10.out
 obtain ⟨f0,f1,f2,f3,f4,f5,f6⟩:=KF.out _ HV10.out
 go_wp2_with fail
 refine (HPS.out _).mono ?_
 rintro e w11 ⟨pp,rfl,hnp,hb11⟩
 have HP11:=hI ((hb11.block _ (qaa HP10.out)).trans HP10.out)
 have D11:=hI (D10.out.below hb11)
 have HV11:=hI (qac HV10.out hb11)
 have HR11:=hI (qas HR10.out hb11)
 have HNP:=hI hnp
 clear hb11 hnp HP10 HZ10 D10 HV10 HR10 HPS p0 p1 p2 p3 p4 p5 p6 p7 p8 p9 p10 p11 p12 p13 f0 f1 f2 f3 f4 f5 f6
 cases pp
 rotate_left
 ·have HBA:=hI (qac HB0.out HV11.out)
  go_wp2_with (go_at_call 7;refine (HAW.out _ HBA.out).mono ?_;rintro e wa ⟨rfl,hba⟩;have HBE:=hI (qac HBA.out hba);clear hba)
  go_ret
  exact ⟨rfl,HBE.out⟩
 obtain ⟨n1,n2⟩:=HNP.out rfl
 obtain ⟨S',hk',hl',hkd⟩:=HKD.out n1 n2
 have HKP:=hI hk'
 have HKD0:=hI hkd
 have HLS:=hI hl'
 have hd40:=(qev.1 HG1.out).1
 obtain ⟨l1,ho1,-,hkd1⟩:=hkd.opens (by omega) othB
 obtain ⟨l2,ho2,-,hkd2⟩:=hkd1.opens (by omega) othB
 have HO1:=hI ho1
 have HO2:=hI ho2
 have HKD1:=hI hkd1
 have HDOK:=hI hp3
 have hz1:=hp1
 have hz2:=hp2
 clear HNP n1 n2 HKD hk' hkd hl' ho1 ho2 hkd1 hkd2 hp1 hp2 hp3 hp4 hd40
 have HOF:Hid (∀ W,DAt W g lz.d→Calls Tryz.prog 22 #[.pointer (some ⟨g,0,none⟩)] W fun e w'=>e=.returned .nilIface∧DAt w' g { lz.d with dead:=true }∧But g W w'):=fun W hd=>by
  refine (off_any lz.d g W hd HDOK.out).mono ?_
  rintro e w' ⟨he,hd,hb⟩
  obtain ⟨v,rfl,⟨-,rfl⟩ | ⟨h1,-⟩⟩:=qyw he
  ·exact ⟨rfl,hd,hb⟩
  ·exact absurd rfl h1
 go_wp2_with fail
 refine (HOF.out _ D11.out).mono ?_
 rintro e w12 ⟨rfl,d12,b12⟩
 have D12:=hI d12
 have HP12:=hI (b12.heap HP11.out (by omega))
 have HV12:=hI (b12.below HV11.out hgv HV11.out.size)
 have HR12:=hI (qcy HR11.out b12 (by omega) (fun e=>by have:=(HR11.out.lt _ e).1;omega))
 clear d12 b12 D11 HP11 HV11 HR11 HOF
 obtain ⟨f0,f1,f2,f3,f4,f5,f6⟩:=KF.out _ HV12.out
 go_wp2_with fail
 refine (HBT.out _ g _ D12.out ⟨HDOK.out.a,HDOK.out.b,HDOK.out.fit,HDOK.out.one,HDOK.out.room,HDOK.out.arm⟩ ht1 ht2).mono ?_
 rintro e w13 ⟨rfl,d13,b13⟩
 have D13:Hid (DAt w13 g (qia lz.d ⟨ka,ta,ra⟩ ⟨kb,tb,rb⟩)):=d13
 have HP13:=hI (b13.heap HP12.out (by omega))
 have HV13:=hI (b13.below HV12.out hgv HV12.out.size)
 have HR13:=hI (qcy HR12.out b13 (by omega) (fun e=>by have:=(HR12.out.lt _ e).1;omega))
 clear d13 b13 D12 HP12 HV12 HR12 HBT f0 f1 f2 f3 f4 f5 f6
 have HN1:=hI (qfe _ g othB w13 (HGL.out _ (qac HB0.out HV13.out)) D13.out HKD0.out.ok (by have:=HKD0.out.ops;omega))
 rw [HO1.out] at HN1
 unfold othB at HN1
 go_wp2_with fail
 refine HN1.out.mono ?_
 rintro e w14 hx
 obtain ⟨h14,A14,c14,rfl,hh14,x14,r14,b14⟩:=qff hx rfl
 have D14:Hid (DAt w14 g l1.d):=x14.dsk
 have HP14:=hI (b14.heap HP13.out (by omega))
 have HV14:=hI (b14.below HV13.out hgv HV13.out.size)
 have HR14:=hI (qcy HR13.out b14 (by omega) (fun e=>by have:=(HR13.out.lt _ e).1;omega))
 have HQ14:=hI r14
 obtain ⟨o1,o2,o3⟩:=own_caps HR14.out
 have HKT:=hI (kept_any S S'.st S'.evs A6 A14 c6 c14 w14 (rd_own_ev HR14.out) (rd_own_ev r14) o1 o2 o3 (by have:=HLS.out;omega) hz2 HKP.out)
 unfold pastV at HKT
 have hgw13:g < w13.heap.size:=D13.out.lt
 clear hx hh14 x14 r14 b14 o1 o2 o3 D13 HP13 HV13 HR13 HN1 HKP HR14
 obtain ⟨m0,m1,m2,m3,m4⟩:=qgd HP14.out
 go_wp2_with fail
 refine HKT.out.mono ?_
 rintro e w15 ⟨rfl,hb15⟩
 have D15:=hI (D14.out.below hb15)
 have HV15:=hI (qac HV14.out hb15)
 have HQ15:=hI (qas HQ14.out hb15)
 clear hb15 D14 HV14 HQ14 HKT HP14 m0 m1 m2 m3 m4
 have HN2:=hI (qfe _ g othB w15 (HGL.out _ (qac HB0.out HV15.out)) D15.out HKD1.out.ok (by have:=HKD1.out.ops;omega))
 rw [HO2.out] at HN2
 unfold othB at HN2
 go_wp2_with fail
 refine HN2.out.mono ?_
 rintro e w16 hx
 obtain ⟨h16,A16,c16,rfl,hh16,x16,r16,b16⟩:=qff hx rfl
 have HV16:=hI (b16.below HV15.out hgv HV15.out.size)
 have HQ16:=hI (qcy HQ15.out b16 (by omega) (fun e=>by have:=(HQ15.out.lt _ e).1;omega))
 have HSV:Hid (Calls Tryz.prog 13 #[.slice A16 (evA S'.evs).size c16,.slice A14 (evA S'.evs).size c14] w16 fun e w'=>e=.returned (.bool true)∧∃ n,w'=w16.drewN n):=by
  have h:=qpe A16 A14 c16 c14 (evA S'.evs) (evA S'.evs) _ _ w16 (rd_own_ev r16) (rd_own_ev HQ16.out) (by rw [qau];have:=HLS.out;omega)
  rw [decide_eq_true rfl] at h
  exact h
 clear hx hh16 x16 r16 b16 HQ15 HQ16 HV15 D15 HN2
 go_wp2_with (first | (go_at_call 13;refine HSV.out.mono ?_;rintro e w17 ⟨rfl,n17,rfl⟩;(have HBA:Hid (Below w.heap.size w (w16.drewN n17)):=qan (qac HB0.out HV16.out) n17)) | (go_at_call 7;refine (HAW.out _ HBA.out).mono ?_;rintro e wa ⟨rfl,hba⟩;have HBE:=hI (qac HBA.out hba);clear hba))
 go_ret
 exact ⟨rfl,HBE.out⟩
set_option maxRecDepth 100000 in
theorem lifted (os:Os) (started:os.Started) (H:Type) (enc:TypeId×Value→H) :
 ReturnsInHanded {} Tryz.checked os 5 .any (fun w args=>(Rows.walFallsSpec.pre enc Tryz.prog Tryz.f5 [] false w args∧laidMetH Tryz.prog qor w)∧sizedMet enc Tryz.prog Tryz.f5 (OpenSpec.ofChange Rows.walFallsSpec) false w args)
  (Rows.walFallsSpec.post enc Tryz.prog Tryz.f5 false true false false):=by
 refine returnsInHanded_of_change_and (C:=Tryz.checked) (X:=fun w _=>laidMetH Tryz.prog qor w) (fun _ _ _ hh h=>h.of_heap hh) own started (by kernel_rfl) Tryz.func5
  (ChangeSpec.witness_at (enc:=enc) (C:=Tryz.checked) (os:=os) (X:=fun w _=>laidMetH Tryz.prog qor w) false (qlt os) #[.string ⟨#[]⟩,.slice none 0 0,.agg #[.int .i64 0,.int .i64 0,.string ⟨#[]⟩,.bool false,.int .i64 0,.string ⟨#[]⟩,.bool false]] 8 rfl (by kernel_rfl) (by kernel_rfl) (by kernel_rfl) (by kernel_rfl) (by kernel_rfl) (qik os _)) ?_
 intro W base args ds gs before hval0 hW _ _ hL _
 have hval:∀ (j:Nat) t v,Tryz.f5.params[j]?=some t→args[j]?=some v→Value.okWide Tryz.prog W .any base t v:=hval0
 have hW':=hW
 obtain ⟨p,q,hA0,hV,rfl,_,_⟩:=hW
 have hA:DataW.TrodAll enc Tryz.prog W 0 (fun _=>true) true Tryz.f5.params.toList args.toList ds p:=hA0
 rw [Tryz.params5] at hA hval
 have hg:=qjt hL
 obtain ⟨v0,v1,v2,d0,d1,d2,p0,p1,p2,rfl,rfl,rfl,h0,h1,h2⟩:=trodAll_three hA
 obtain ⟨rfl,rfl⟩:=trodVars_none hV
 obtain ⟨s0,rfl,rfl,rfl,-⟩:=ChangeMaps.open_string Tryz.underlying9 (hval 0 9 v0 rfl rfl) h0
 obtain ⟨A1,c1,m1,rfl,ra1⟩:=qrr (hval 1 22 v1 rfl rfl) h1
 obtain ⟨n2,fa2,fb2,rfl⟩:=open_fall (hval 2 67 v2 rfl rfl) h2
 refine (walk s0 A1 c1 m1 n2 fa2 fb2 W hg ra1).mono fun e W' ⟨he,hb⟩=>?_
 subst he
 exact ⟨_,rfl,qvn (tb:=4) laidOut (by decide +kernel) rfl hW' rfl rfl rfl rfl Tryz.underlying4 hb⟩
theorem over:Rows.walFallsRow.holds Tryz.pinned (OpenSpec.ofChange Rows.walFallsSpec) :=
 OpenClaim.holds_of_wide 5 Tryz.f5 rfl rfl rfl rfl rfl rfl rfl ⟨rfl,rfl,rfl,rfl,rfl⟩ rfl rfl rfl rfl rfl (by kernel_rfl) Tryz.func5 (by kernel_rfl)
  (of_decide_eq_true (by kernel_rfl)) (by unfold Func.isWrapper;first | (rw [if_pos (by decide +kernel)];kernel_rfl) | (rw [if_neg (by decide +kernel)];exact ⟨rfl,rfl⟩))
  (fun os started H enc _=>lifted os started H enc)
theorem noStand : ∀ (f : FuncId) (fn : Func), Tryz.prog.funcNamed "rubato/rubatolaw13.WalFalls" = some f → Tryz.prog.funcs[f]? = some fn → true = Tryz.prog.looks [] ∧ ∀ (j : Nat) t, fn.params[j]? = some t → Tryz.prog.wantsStandIn t = false := fun f fn hf hfn => by
 obtain rfl : f = 5 := Option.some.inj ((show Tryz.prog.funcNamed "rubato/rubatolaw13.WalFalls" = some 5 by kernel_rfl).symm.trans hf) |>.symm
 obtain rfl:fn = Tryz.f5:=(Option.some.inj (Tryz.func5.symm.trans hfn)).symm
 refine ⟨by kernel_rfl,fun j t ht=>?_⟩
 rw [Tryz.params5] at ht
 have hs:t = 22∨t = 67∨t = 9:=by
  rcases j with _ | j
  ·(first | (left;simpa using ht.symm) | (right;left;simpa using ht.symm) | (right;right;simpa using ht.symm))
  rcases j with _ | j
  ·(first | (left;simpa using ht.symm) | (right;left;simpa using ht.symm) | (right;right;simpa using ht.symm))
  rcases j with _ | j
  ·(first | (left;simpa using ht.symm) | (right;left;simpa using ht.symm) | (right;right;simpa using ht.symm))
  simp at ht
 rcases hs with rfl | rfl | rfl
 ·exact (show Tryz.prog.wantsStandIn 22 = false by kernel_rfl)
 ·exact (show Tryz.prog.wantsStandIn 67 = false by kernel_rfl)
 ·exact (show Tryz.prog.wantsStandIn 9 = false by kernel_rfl)
theorem proved:Rows.WalFallsCardSaid :=
 Claim7.holds_tied_plain_at .later [] [.handle] true Rows.walFallsCard.stood.harness true over (fun _ h=>by cases h) (by kernel_rfl) (fun _ h=>by cases h) walFalls_row_tie rfl ⟨rfl,rfl⟩ (by kernel_rfl) (by kernel_rfl) noStand (by kernel_rfl)
#print axioms proved
end Go.Proofs.YtjkecckndfcbjaaGreatDoor.walFalls
