/- Whatever acts a log does upon a disk that is not armed: opened again, twice, it tells the last point's state and all events since; for every input (the card ties the variable errors.errorType to the program's text). -/
import Derived.Deep.Fields
import Derived.Deep.Slices
import Derived.Lib.SmallJoins
import Derived.Test.YtjkecckndfcbjaaGreatDoorKDonA
import Derived.Test.YtjkecckndfcbjaaGreatDoorKWawB
import Derived.Test.YtjkecckndfcbjaaGreatDoorKROpn
import Derived.Test.YtjkecckndfcbjaaGreatDoorKOpenW
import Derived.Test.YtjkecckndfcbjaaGreatDoorKLawG
import Derived.Test.YtjkecckndfcbjaaGreatDoorKOwnK
import Derived.Test.YtjkecckndfcbjaaGreatDoorKRecA
import Derived.Test.YtjkecckndfcbjaaGreatDoorKPlyC
namespace Go.Proofs.YtjkecckndfcbjaaGreatDoor.walKeeps
open Go.ChangeShapes Go.WideShapes Go.ChangeAt Go.RowKit Go.Sort Nb
set_option maxRecDepth 100000
theorem rd_own_ev {W:World} {B:Nat} {A:Option Addr} {c:Nat} {evs:List EV} (h:W.ownsRow B 56 2 (.slice A (evA evs).size c) (evA evs).size (flatK qbm 2 (evA evs)).toList):RdK qbm 2 W.heap.size W A (evA evs):=by
 obtain ⟨A',c',e',hrk,-⟩:=qbj h
 injection e' with e1 e2 e3
 rw [←e1] at hrk
 exact hrk
theorem own_out {W:World} {B g:Nat} {e:TypeId} {k n:Nat} {v:Value} {xs:List Value} (h:W.ownsRow B e k v n xs) (hg:g < B):∃ B',g < B'∧W.ownsRow B' e k v n xs:=⟨B,hg,h⟩
set_option maxHeartbeats 8000000 in
theorem walk (first:ByteArray) (A:Option Addr) (c:Nat) (d:Array AC) (w:World) (hg:Glob w) (ra:RdK qlq 13 w.heap.size w A d) :
 Calls Tryz.prog 3 #[.string first,.slice A d.size c] w fun e w'=>e=.returned (.bool true)∧Below w.heap.size w w':=by
 have HGL:=hI (fun (W:World) (hb:Below w.heap.size w W)=>hg.below hb)
 have HAW:=hI (fun (W:World) (hb:Below w.heap.size w W)=>qmq W (hg.below hb))
 have HF:=hI (qrb A c d w ra)
 have HRA:=hI ra
 obtain ⟨g1,hg1⟩:∃ g,qra d=g:=⟨_,rfl⟩
 rw [hg1] at HF
 have HG1:=hI hg1
 clear hg ra hg1
 cases g1
 ·go_enter Tryz.func3,Tryz.ntmps3
  go_wp2_with (first | (go_at_call 6;refine HF.out.mono ?_;rintro e w1 ⟨rfl,hb1⟩;have HB1:=hI hb1;clear hb1) | (go_at_call 7;refine (HAW.out _ HB1.out).mono ?_;rintro e w2 ⟨rfl,hb2⟩;have HB2:=hI (qac HB1.out hb2);clear hb2))
  go_ret
  exact ⟨rfl,HB2.out⟩
 by_cases hz:18000 < first.size
 ·have hz':decide ((18000:Int) < (first.size:Int))=true:=decide_eq_true (by omega)
  clear hz
  go_enter Tryz.func3,Tryz.ntmps3
  go_wp2_with (first | (go_at_call 6;refine HF.out.mono ?_;rintro e w1 ⟨rfl,hb1⟩;have HB1:=hI hb1;clear hb1) | (go_at_call 7;refine (HAW.out _ HB1.out).mono ?_;rintro e w2 ⟨rfl,hb2⟩;have HB2:=hI (qac HB1.out hb2);clear hb2))
  go_ret
  exact ⟨rfl,HB2.out⟩
 have hz':decide ((18000:Int) < (first.size:Int))=false:=decide_eq_false (by omega)
 obtain ⟨l0,hop,hdv,hsh,har⟩:=qxf first (by omega)
 obtain ⟨hd40,hsm⟩:=qev.1 HG1.out
 have HOP:=hI hop
 have HDV:=hI hdv
 have HD40:=hI hd40
 have HSM:=hI hsm
 have HKD:=hI (keeps_kd hdv hsh har d.toList (by simpa using hd40))
 rw [show d.toList.length=d.size by simp] at HKD
 have hln:(runD (zP first,l0) d.toList).1.evs.length≤100:=by
  have:=(qlx hdv d.toList (by simp;omega)).iv.few
  simp at this
  omega
 clear hz hop hdv hsh har hd40 hsm
 go_enter Tryz.func3,Tryz.ntmps3
 go_wp2_with (go_at_call 6;refine HF.out.mono ?_;rintro e w1 ⟨rfl,hb1⟩;have HB1:=hI hb1;clear hb1)
 clear HF
 refine (qlm 900000 w1 (by omega) (by omega)).mono ?_
 rintro e w2 ⟨g,hgw,rfl,hd2,hb2⟩
 have hgw2:w.heap.size≤g:=Nat.le_trans HB1.out.size hgw
 have D2:Hid (DAt w2 g (newD 900000)):=hd2
 have HB2:=hI (qac HB1.out hb2)
 clear hd2 hb2 hgw
 go_wp2_with fail
 refine (qvg 900000 w2).mono ?_
 rintro e w3 ⟨rfl,hb3⟩
 have D3:=hI (D2.out.below hb3)
 have HB3:=hI (qac HB2.out hb3)
 clear hb3 D2
 rw [show (qxt 900000).1=qop 900000 from rfl,show (qxt 900000).2=0 from rfl]
 unfold rdV qcc qop
 dsimp only
 go_wp2_with fail
 refine (qfe (newD 900000) g first _ (HGL.out _ (qab HB3.out _)) (D3.out.below (bel1 w3 _)) (qmr 900000 (by omega) (by omega)) (by decide)).mono ?_
 rintro e w4 hx
 rw [HOP.out] at hx
 obtain ⟨h,A4,c4,rfl,hh,x4,-,b4⟩:=qff hx rfl
 have hhw:w.heap.size≤h:=by
  have h1:=HB3.out.size
  have h2:=(bel1 w3 (.cells #[.string ⟨#[]⟩,.string ⟨#[]⟩,.string ⟨#[]⟩,.string ⟨#[]⟩,.bool false,.bool false,.int .i64 900000,.int .i64 0,.int .i64 0,.bool false] 33)).size
  omega
 have hgl3:=D3.out.lt
 have HX4:Hid (w4.heap[w3.heap.size]?=some (.cells #[.string ⟨#[]⟩,.string ⟨#[]⟩,.string ⟨#[]⟩,.string ⟨#[]⟩,.bool false,.bool false,.int .i64 900000,.int .i64 0,.int .i64 0,.bool false] 33 (0,0))):=b4.heap (qao w3 _) (by omega)
 have X4:=hI x4
 have HB4:=hI (b4.below (qab HB3.out (.cells #[.string ⟨#[]⟩,.string ⟨#[]⟩,.string ⟨#[]⟩,.string ⟨#[]⟩,.bool false,.bool false,.int .i64 900000,.int .i64 0,.int .i64 0,.bool false] 33)) hgw2 (qab HB3.out _).size)
 clear hx hh x4 b4 D3
 obtain ⟨p0,p1,p2,p3,p4,p5,p6,p7,p8,p9⟩:=qat HX4.out
 go_wp2_with fail
 have HRO:Hid (Calls Tryz.prog 11 #[.agg #[.string ⟨#[]⟩,.string ⟨#[]⟩,.string ⟨#[]⟩,.string ⟨#[]⟩,.bool false,.bool false,.int .i64 900000,.int .i64 0,.int .i64 0,.bool false],.string first] w4 (qmh (rlOf l0) first [] 0 w4)):=by
  have h:=qrw (newD 900000) first w4 (qmr 900000 (by omega) (by omega)) (by decide)
  rw [HOP.out] at h
  exact h
 refine HRO.out.mono ?_
 rintro e w5 ⟨v5,rfl,-,hb5⟩
 have X5:=hI (X4.out.below hb5)
 have HB5:=hI (qac HB4.out hb5)
 obtain ⟨lx,hlx⟩:∃ y,rlOf l0=y:=⟨_,rfl⟩
 have HLX:=hI hlx
 rw [hlx]
 obtain ⟨⟨xa,xb,xc,xe,xh,xk,xR,xO,xM,xD⟩,xf,xp,xq,xs⟩:=lx
 have HRX:Hid (rdOf l0.d=⟨xa,xb,xc,xe,xh,xk,xR,xO,xM,xD⟩∧l0.file=xf∧l0.ep=xp∧l0.sq=xq∧l0.shut=xs):=by
  show _∧_∧_∧_∧_
  have h1:=congrArg RLg.d hlx
  have h2:=congrArg RLg.file hlx
  have h3:=congrArg RLg.ep hlx
  have h4:=congrArg RLg.sq hlx
  have h5:=congrArg RLg.shut hlx
  exact ⟨h1,h2,h3,h4,h5⟩
 rw [qch]
 clear hb5 hlx HRO X4 HX4 HB4 p0 p1 p2 p3 p4 p5 p6 p7 p8 p9
 have HDN:Hid (∀ W,Below w.heap.size w W→LAt W h g l0→Calls Tryz.prog 12 #[.pointer (some ⟨h,0,none⟩),.pointer (some ⟨g,0,none⟩),.agg #[.string xa,.string xb,.string xc,.string xe,.bool xh,.bool xk,.int .i64 (xR:Int),.int .i64 (xO:Int),.int .i64 (xM:Int),.bool xD],.agg #[.string xa,.string xb,.string xc,.string xe,.bool xh,.bool xk,.int .i64 (xR:Int),.int .i64 (xO:Int),.int .i64 (xM:Int),.bool xD,.int .i64 (xf:Int),.int .i64 (xp:Int),.int .i64 (xq:Int),.bool xs],.string first,.slice A d.size c] W (DoneP h g (runD (zP first,l0) d.toList) W)):=fun W hb hx=>by
  have:=qus l0 ⟨xa,xb,xc,xe,xh,xk,xR,xO,xM,xD⟩ h g w.heap.size 3 first A c d W (HGL.out W hb) hx hgw2 hhw (HRA.out.below hb) HDV.out (by omega) HD40.out (fun i hi=>(HSM.out i hi).1)
  rw [HRX.out.1,HRX.out.2.1,HRX.out.2.2.1,HRX.out.2.2.2.1,HRX.out.2.2.2.2,qch] at this
  exact this
 clear HRX HLX HDV HD40 HSM HRA HOP
 generalize runD (zP first,l0) d.toList=S at HKD HDN hln
 obtain ⟨S,lz⟩:=S
 dsimp only at HKD hln
 go_wp2_with fail
 refine (HDN.out _ (qab HB5.out _) (X5.out.below (bel1 w5 _))).mono ?_
 rintro e w6 ⟨A6,c6,rfl,hrow,x6,b6⟩
 have D6:Hid (DAt w6 g lz.d):=x6.dsk
 have HB6:=hI (b6.below (qab HB5.out _) hgw2 hhw (qab HB5.out _).size)
 have hg6:=x6.ltg
 have hg5:g < w5.heap.size:=X5.out.ltg
 obtain ⟨B6,hgB6,hrow⟩:=own_out hrow (X5.out.below (bel1 w5 _)).ltg
 have HROW:=hI hrow
 dsimp only at HROW
 obtain ⟨ly,hly⟩:∃ y,rlOf lz=y:=⟨_,rfl⟩
 rw [hly]
 obtain ⟨⟨ya,yb,yc,ye,yh,yk,yR,yO,yM,yD⟩,yf,yp,yq,ys⟩:=ly
 rw [qch]
 clear x6 b6 hrow hly HDN X5 HB5
 go_upto_region 15 with fail
 generalize hw7:(w6.alloc (.cells #[.string S.st,.slice A6 (evA S.evs).size c6,.int .i64 (S.safe:Int),.string S.torn,.bool S.lost] 45)).alloc (.cells #[.string ya,.string yb,.string yc,.string ye,.bool yh,.bool yk,.int .i64 (yR:Int),.int .i64 (yO:Int),.int .i64 (yM:Int),.bool yD,.int .i64 (yf:Int),.int .i64 (yp:Int),.int .i64 (yq:Int),.bool ys] 41)=w7
 obtain ⟨q17,hq17⟩:∃ n,n=w6.heap.size:=⟨_,rfl⟩
 rw [←hq17]
 have hb7:Below w6.heap.size w6 w7:=by rw [←hw7];exact qab (bel1 w6 _) _
 have HP7:Hid (w7.heap[q17]?=some (.cells #[.string S.st,.slice A6 (evA S.evs).size c6,.int .i64 (S.safe:Int),.string S.torn,.bool S.lost] 45 (0,0))):=by rw [←hw7,hq17];exact (qbf w6 _ _).1
 have D7:=hI (D6.out.below hb7)
 have HB7:=hI (qac HB6.out hb7)
 have HR7:=hI (qas HROW.out hb7)
 have hgq:g < q17:=by rw [hq17];exact hg6
 clear hw7 hb7 D6 HROW HB6 hg6 hq17
 go_loopw [20] (fun iv wr=>∃ (k:Nat) (D:DK),iv=.int .i64 (k:Int)∧k≤2∧Hid (KD d.size S k D)∧Hid (DAt wr g D)∧Hid (But g w7 wr)) (fun i _=>2 - (intOf i).toNat)
 case atStart=>exact ⟨0,lz.d,rfl,by omega,HKD,D7,hI (But.refl _ _)⟩
 case round =>
  obtain ⟨k,D,rfl,hk,HK,HD,HBW⟩:=hrel
  have HB:=hI (HBW.out.below HB7.out hgw2 HB7.out.size)
  by_cases hlt:k < 2
  ·have kz:(k:Int) < 2:=by omega
   have hd40:=(qev.1 HG1.out).1
   obtain ⟨l,ho,hs,hkd⟩:=HK.out.opens (by omega) othB
   have HN:=hI (qfe D g othB wr (HGL.out wr HB.out) HD.out HK.out.ok (by have:=HK.out.ops;omega))
   rw [ho] at HN
   have HKN:=hI hkd
   have hsq:((l.sq:Int) != ((evA S.evs).size:Int))=false:=by rw [qau,hs];simp
   unfold othB at HN
   clear ho hs hkd HK hd40
   go_wp2_with fail
   refine HN.out.mono ?_
   rintro e w8 hx
   obtain ⟨h8,A8,c8,rfl,hh8,x8,r8,b8⟩:=qff hx rfl
   have HB8:=hI (HBW.out.trans b8)
   have HP8:=hI (HB8.out.heap HP7.out (by omega))
   have HR8:=hI (qcy HR7.out HB8.out (by have:=HP7.out;omega) (fun e=>by have:=(HR7.out.lt _ e).1;omega))
   have HSV:Hid (Calls Tryz.prog 13 #[.slice A8 (evA S.evs).size c8,.slice A6 (evA S.evs).size c6] w8 fun e w'=>e=.returned (.bool true)∧∃ n,w'=w8.drewN n):=by
    have h:=qpe A8 A6 c8 c6 (evA S.evs) (evA S.evs) _ _ w8 (rd_own_ev r8) (rd_own_ev HR8.out) (by rw [qau];omega)
    rw [decide_eq_true rfl] at h
    exact h
   have HSQ:Hid (∀ n,Calls Tryz.prog 14 #[.pointer (some ⟨h8,0,none⟩)] (w8.drewN n) fun e w'=>e=.returned (.int .i64 (l.sq:Int))∧w8.drewN n=w'):=fun n=>qtw l h8 g (w8.drewN n) ⟨x8.box,x8.dsk,x8.ne⟩
   have HD8:Hid (DAt w8 g l.d):=x8.dsk
   obtain ⟨m0,m1,m2,m3,m4⟩:=qgd HP8.out
   clear hx hh8 x8 r8 b8 HN HD
   go_wp2_with (first | (go_at_call 13;refine HSV.out.mono ?_;rintro e w9 ⟨rfl,n9,rfl⟩) | (go_at_call 14;refine (HSQ.out _).mono ?_;rintro _ _ ⟨rfl,rfl⟩))
   go_roundw
   case rel=>exact ⟨k + 1,l.d,by go_num,by omega,HKN,HD8,hI (HB8.out.drewN _)⟩
   case measure=>simp [intOf];omega
  ·have kz:decide ((k:Int) < 2)=false:=decide_eq_false (by omega)
   go_wp2_with (go_at_call 7;refine (HAW.out _ HB.out).mono ?_;rintro e w9 ⟨rfl,hb9⟩;have HB9:=hI (qac HB.out hb9);clear hb9)
   go_ret
   exact ⟨rfl,HB9.out⟩
set_option maxRecDepth 100000 in
theorem lifted (os:Os) (started:os.Started) (H:Type) (enc:TypeId×Value→H) :
 ReturnsInHanded {} Tryz.checked os 3 .any (fun w args=>(Rows.walKeepsSpec.pre enc Tryz.prog Tryz.f3 [] false w args∧laidMetH Tryz.prog qor w)∧sizedMet enc Tryz.prog Tryz.f3 (OpenSpec.ofChange Rows.walKeepsSpec) false w args)
  (Rows.walKeepsSpec.post enc Tryz.prog Tryz.f3 false true false false):=by
 refine returnsInHanded_of_change_and (C:=Tryz.checked) (X:=fun w _=>laidMetH Tryz.prog qor w) (fun _ _ _ hh h=>h.of_heap hh) own started (by kernel_rfl) Tryz.func3
  (ChangeSpec.witness_at (enc:=enc) (C:=Tryz.checked) (os:=os) (X:=fun w _=>laidMetH Tryz.prog qor w) false (qlt os) #[.string ⟨#[]⟩,.slice none 0 0] 8 rfl (by kernel_rfl) (by kernel_rfl) (by kernel_rfl) (by kernel_rfl) (by kernel_rfl) (qik os _)) ?_
 intro W base args ds gs before hval0 hW _ _ hL _
 have hval:∀ (j:Nat) t v,Tryz.f3.params[j]?=some t→args[j]?=some v→Value.okWide Tryz.prog W .any base t v:=hval0
 have hW':=hW
 obtain ⟨p,q,hA0,hV,rfl,_,_⟩:=hW
 have hA:DataW.TrodAll enc Tryz.prog W 0 (fun _=>true) true Tryz.f3.params.toList args.toList ds p:=hA0
 rw [Tryz.params3] at hA hval
 have hg:=qjt hL
 obtain ⟨v0,v1,d0,d1,p0,p1,rfl,rfl,rfl,h0,h1⟩:=trodAll_two hA
 obtain ⟨rfl,rfl⟩:=trodVars_none hV
 obtain ⟨s0,rfl,rfl,rfl,-⟩:=ChangeMaps.open_string Tryz.underlying9 (hval 0 9 v0 rfl rfl) h0
 obtain ⟨A1,c1,m1,rfl,ra1⟩:=qrr (hval 1 22 v1 rfl rfl) h1
 refine (walk s0 A1 c1 m1 W hg ra1).mono fun e W' ⟨he,hb⟩=>?_
 subst he
 exact ⟨_,rfl,qvn (tb:=4) laidOut (by decide +kernel) rfl hW' rfl rfl rfl rfl Tryz.underlying4 hb⟩
theorem over:Rows.walKeepsRow.holds Tryz.pinned (OpenSpec.ofChange Rows.walKeepsSpec) :=
 OpenClaim.holds_of_wide 3 Tryz.f3 rfl rfl rfl rfl rfl rfl rfl ⟨rfl,rfl,rfl,rfl,rfl⟩ rfl rfl rfl rfl rfl (by kernel_rfl) Tryz.func3 (by kernel_rfl)
  (of_decide_eq_true (by kernel_rfl)) (by unfold Func.isWrapper;first | (rw [if_pos (by decide +kernel)];kernel_rfl) | (rw [if_neg (by decide +kernel)];exact ⟨rfl,rfl⟩))
  (fun os started H enc _=>lifted os started H enc)
theorem noStand : ∀ (f : FuncId) (fn : Func), Tryz.prog.funcNamed "rubato/rubatolaw13.WalKeeps" = some f → Tryz.prog.funcs[f]? = some fn → true = Tryz.prog.looks [] ∧ ∀ (j : Nat) t, fn.params[j]? = some t → Tryz.prog.wantsStandIn t = false := fun f fn hf hfn => by
 obtain rfl : f = 3 := Option.some.inj ((show Tryz.prog.funcNamed "rubato/rubatolaw13.WalKeeps" = some 3 by kernel_rfl).symm.trans hf) |>.symm
 obtain rfl:fn = Tryz.f3:=(Option.some.inj (Tryz.func3.symm.trans hfn)).symm
 refine ⟨by kernel_rfl,fun j t ht=>?_⟩
 rw [Tryz.params3] at ht
 have hs:t = 22∨t = 9:=by
  rcases j with _ | j
  ·(right;simpa using ht.symm)
  rcases j with _ | j
  ·(left;simpa using ht.symm)
  simp at ht
 rcases hs with rfl | rfl
 ·exact (show Tryz.prog.wantsStandIn 22 = false by kernel_rfl)
 ·exact (show Tryz.prog.wantsStandIn 9 = false by kernel_rfl)
theorem proved:Rows.WalKeepsCardSaid :=
 Claim7.holds_tied_plain_at .later [] [.handle] true Rows.walKeepsCard.stood.harness true over (fun _ h=>by cases h) (by kernel_rfl) (fun _ h=>by cases h) walKeeps_row_tie rfl ⟨rfl,rfl⟩ (by kernel_rfl) (by kernel_rfl) noStand (by kernel_rfl)
#print axioms proved
end Go.Proofs.YtjkecckndfcbjaaGreatDoor.walKeeps
