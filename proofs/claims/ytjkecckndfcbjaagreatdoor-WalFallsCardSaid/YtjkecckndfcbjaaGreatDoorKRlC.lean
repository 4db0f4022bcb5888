/- Texts that the law leans on. -/
import Derived.Test.YtjkecckndfcbjaaGreatDoorKRlP
import Derived.Deep.RegionHeld3
import Derived.Deep.RegionWith
import Derived.Test.YtjkecckndfcbjaaGreatDoorKOpnA
import Derived.Test.YtjkecckndfcbjaaGreatDoorKErrA
namespace Go.Proofs.YtjkecckndfcbjaaGreatDoor
open Go.RowKit Go.Sort Crc Nb
set_option maxRecDepth 100000
theorem far10a {W:World} {g k:Nat} {o o1:Obj} {v0 v1 v2 v3 v4 v5 v6 v7 v8 v9:Value} (h:W.heap[k]?=some o) (hk:k≠g):(((((((((((W.setCell ⟨g,0,none⟩ v0).setCell ⟨g,1,none⟩ v1).setCell ⟨g,2,none⟩ v2).setCell ⟨g,3,none⟩ v3).setCell ⟨g,4,none⟩ v4).setCell ⟨g,5,none⟩ v5).setCell ⟨g,6,none⟩ v6).setCell ⟨g,7,none⟩ v7).setCell ⟨g,8,none⟩ v8).setCell ⟨g,9,none⟩ v9).alloc o1).heap[k]?=some o :=
 (Below.heap_alloc _ _ _ (qaa (qhx h hk))).trans (qhx h hk)
set_option maxHeartbeats 4000000 in
theorem qyq (l:LG) (w:World) (hok:l.d.ok) (ho:l.d.ops≤999999990) (hf:l.file=0∨l.file=1) :
 Calls Tryz.prog 45 #[rlV (rlOf l)] w (qex (rlOf (qgo l).1,(qgo l).2) w):=by
 have HQ:Hid (qgo l=if l.shut then (l,20) else shutG l (qcu l.d (l.file:Int)).1 (qcu l.d (l.file:Int)).2):=qot l hf
 cases hs:l.shut
 ·have HP:Hid (qgo l=shutG l (qcu l.d (l.file:Int)).1 (qcu l.d (l.file:Int)).2):=by show _=_;rw [HQ.out,hs,if_neg (by decide)]
  rw [HP.out]
  have HR:=hI (fun (W:World)=>qqv (rdOf l.d) (l.file:Int) W (qfj hok (by omega)))
  rw [qrf hok] at HR
  have HE:Hid (rlOf l=⟨rdOf l.d,l.file,l.ep,l.sq,false⟩):=by show _=_;rw [←hs];rfl
  rw [HE.out]
  generalize qcu l.d (l.file:Int)=X at HR ⊢
  obtain ⟨dx,cx⟩:=X
  have HEX:Hid (rlOf (shutG l dx cx).1=⟨rdOf dx,l.file,l.ep,l.sq,false || cx == 20⟩):=by show _=_;rw [←hs];rfl
  have hfl:l.file≤1:=by omega
  dsimp only
  rw [HEX.out]
  unfold qex
  dsimp only
  rw [show (shutG l dx cx).2=cx from rfl]
  clear HQ HP HE HEX hok ho hf hs
  generalize rdOf dx=r1 at HR ⊢
  generalize rdOf l.d=r at HR ⊢
  obtain ⟨d,f,p,q,s⟩:=l
  obtain ⟨a,b,c,e,h,k,R,O,M,D⟩:=r
  obtain ⟨a1,b1,c1,e1,h1,k1,R1,O1,M1,D1⟩:=r1
  obtain ⟨s1,hs1⟩:∃ x,(false || cx == 20)=x:=⟨_,rfl⟩
  rw [hs1]
  have HS:=hI (qej a1 b1 c1 e1 h1 k1 D1 false s1 R1 O1 M1 f p q cx hs1)
  clear hs1
  rw [qch]
  rw [qch]
  unfold qgp rdV qcc at HR
  dsimp only at HR hfl ⊢
  go_enter Tryz.func45,Tryz.ntmps45
  go_wp2_with fail
  refine (HR.out _).mono ?_
  rintro x w1 ⟨rfl,hb1⟩
  have HB1:=hI (qac (qab (bel1 w _) _) hb1)
  have HX1:Hid (w1.heap[w.heap.size]?=some (.cells #[.string a,.string b,.string c,.string e,.bool h,.bool k,.int .i64 (R:Int),.int .i64 (O:Int),.int .i64 (M:Int),.bool D,.int .i64 (f:Int),.int .i64 (p:Int),.int .i64 (q:Int),.bool false] 41 (0,0))):=(hb1.block _ (by simp;omega)).trans (qbf w _ _).1
  have HY1:Hid (w1.heap[w.heap.size + 1]?=some (.cells #[.string ⟨#[]⟩,.string ⟨#[]⟩,.string ⟨#[]⟩,.string ⟨#[]⟩,.bool false,.bool false,.int .i64 0,.int .i64 0,.int .i64 0,.bool false,.int .i64 0,.int .i64 0,.int .i64 0,.bool false] 41 (0,0))):=(hb1.block _ (by simp)).trans (qbf w _ _).2
  have hl1:w.heap.size < w1.heap.size:=qaa HX1.out
  clear hb1 HR
  obtain ⟨p0,p1,p2,p3,p4,p5,p6,p7,p8,p9,p10,p11,p12,p13⟩:=qaf HX1.out
  obtain ⟨q0,q1,q2,q3,q4,q5,q6,q7,q8,q9,q10,q11,q12,q13⟩:=qal HX1.out
  go_wp2_with fail
  refine (HS.out _).mono ?_
  rintro _ wz ⟨rfl,hbz⟩
  have HBZ:=hI (qac (qab (qsg HB1.out (Nat.le_refl _)) _) hbz)
  have HYZ:Hid (wz.heap[w.heap.size + 1]?=some (.cells #[.string ⟨#[]⟩,.string ⟨#[]⟩,.string ⟨#[]⟩,.string ⟨#[]⟩,.bool false,.bool false,.int .i64 0,.int .i64 0,.int .i64 0,.bool false,.int .i64 0,.int .i64 0,.int .i64 0,.bool false] 41 (0,0))):=(hbz.block _ (qaa (far10a HY1.out (Nat.succ_ne_self _)))).trans (far10a HY1.out (Nat.succ_ne_self _))
  clear hbz HS HX1 HY1 HB1 hl1 p0 p1 p2 p3 p4 p5 p6 p7 p8 p9 p10 p11 p12 p13 q0 q1 q2 q3 q4 q5 q6 q7 q8 q9 q10 q11 q12 q13
  obtain ⟨y0,y1,y2,y3,y4,y5,y6,y7,y8,y9,y10,y11,y12,y13⟩:=qaf HYZ.out
  obtain ⟨z0,z1,z2,z3,z4,z5,z6,z7,z8,z9,z10,z11,z12,z13⟩:=qal HYZ.out
  go_wp2
  refine bodyPost_ret (v:=.tuple #[.agg #[.string a1,.string b1,.string c1,.string e1,.bool h1,.bool k1,.int .i64 (R1:Int),.int .i64 (O1:Int),.int .i64 (M1:Int),.bool D1,.int .i64 (f:Int),.int .i64 (p:Int),.int .i64 (q:Int),.bool s1],.int .i64 (cx:Int)]) (by simp [results,Tryz.results45,go_sem,y0,y1,y2,y3,y4,y5,y6,y7,y8,y9,y10,y11,y12,y13]) rfl ?_
  exact ⟨rfl,qbo HBZ.out (Nat.le_succ _)⟩
 ·have HP:Hid (qgo l=(l,20)):=by show _=_;rw [HQ.out,hs,if_pos rfl]
  rw [HP.out]
  have HE:Hid (rlOf l=⟨rdOf l.d,l.file,l.ep,l.sq,true⟩):=by show _=_;rw [←hs];rfl
  unfold qex
  dsimp only
  rw [HE.out]
  clear HQ HP HE hok ho hf hs
  generalize rdOf l.d=r
  obtain ⟨d,f,p,q,s⟩:=l
  obtain ⟨a,b,c,e,h,k,R,O,M,D⟩:=r
  rw [qch]
  dsimp only
  go_enter Tryz.func45,Tryz.ntmps45
  go_wp2
  refine bodyPost_ret (v:=.tuple #[.agg #[.string a,.string b,.string c,.string e,.bool h,.bool k,.int .i64 (R:Int),.int .i64 (O:Int),.int .i64 (M:Int),.bool D,.int .i64 (f:Int),.int .i64 (p:Int),.int .i64 (q:Int),.bool true],.int .i64 20]) (by simp [results,Tryz.results45,go_sem]) rfl ?_
  exact ⟨rfl,(by repeat (first | exact bel1 w _ | refine Below.drew ?_ | refine qan ?_ _ | refine qab ?_ _))⟩
end Go.Proofs.YtjkecckndfcbjaaGreatDoor
namespace Go.Proofs.YtjkecckndfcbjaaGreatDoor
open Go.RowKit Go.Sort Crc Nb
set_option maxRecDepth 100000
theorem qed (w:World) (o o2 o3:Obj):(((w.alloc o).alloc o2).alloc o3).heap[w.heap.size]?=some o∧(((w.alloc o).alloc o2).alloc o3).heap[w.heap.size + 2]?=some o3:=by
 refine ⟨(Below.heap_alloc _ _ _ (by simp;omega)).trans (qbf w o o2).1,?_⟩
 have hx:=qao ((w.alloc o).alloc o2) o3
 rw [show ((w.alloc o).alloc o2).heap.size=w.heap.size + 2 by simp] at hx
 exact hx
theorem set11 {W:World} {g:Nat} {t:TypeId} {v0 v1 v2 v3 v4 v5 v6 v7 v8 v9 v12 x0 x1 x2 x3 x4 x5 x6 x7 x8 x9 x10 x11 x12 x13:Value} (h:W.heap[g]?=some (.cells #[x0,x1,x2,x3,x4,x5,x6,x7,x8,x9,x10,x11,x12,x13] t (0,0))):(((((((((((W.setCell ⟨g,0,none⟩ v0).setCell ⟨g,1,none⟩ v1).setCell ⟨g,2,none⟩ v2).setCell ⟨g,3,none⟩ v3).setCell ⟨g,4,none⟩ v4).setCell ⟨g,5,none⟩ v5).setCell ⟨g,6,none⟩ v6).setCell ⟨g,7,none⟩ v7).setCell ⟨g,8,none⟩ v8).setCell ⟨g,9,none⟩ v9).setCell ⟨g,12,none⟩ v12).heap[g]?=some (.cells #[v0,v1,v2,v3,v4,v5,v6,v7,v8,v9,x10,x11,v12,x13] t (0,0)):=by
 have h1:=qae (set10 (v0:=v0) (v1:=v1) (v2:=v2) (v3:=v3) (v4:=v4) (v5:=v5) (v6:=v6) (v7:=v7) (v8:=v8) (v9:=v9) h) 12 v12
 rw [h1]
 simp only [List.setIfInBounds_toArray,List.set_cons_succ,List.set_cons_zero]
set_option maxHeartbeats 4000000 in
theorem rAddL_any (l:LG) (ek:Int) (ed:ByteArray) (w:World) (hok:l.d.ok) (ho:l.d.ops≤999999990) (hf:l.file=0∨l.file=1) (hsq:l.sq≤1000000) (hez:ed.size≤1000000) :
 Calls Tryz.prog 44 #[rlV (rlOf l),.agg #[.int .i64 ek,.string ed]] w (qex (rlOf (addG l (ek,ed)).1,(addG l (ek,ed)).2) w):=by
 have HQ:Hid (addG l (ek,ed)=addM l (ek,ed)):=qti l hf (ek,ed)
 unfold addM at HQ
 cases hs:l.shut
 ·by_cases h9:1000000≤l.sq
  ·have h9':(1000000:Int)≤(l.sq:Int):=by omega
   have HP:Hid (addG l (ek,ed)=(l,9)):=by show _=_;rw [HQ.out,hs];rw [if_neg (by decide),if_pos h9]
   rw [HP.out]
   have HE:Hid (rlOf l=⟨rdOf l.d,l.file,l.ep,l.sq,false⟩):=by show _=_;rw [←hs];rfl
   unfold qex
   dsimp only
   rw [HE.out]
   clear HQ HP HE hok ho hf hsq h9 hs
   generalize rdOf l.d=r
   obtain ⟨d,f,p,q,s⟩:=l
   obtain ⟨a,b,c,e,h,k,R,O,M,D⟩:=r
   rw [qch]
   dsimp only at h9' ⊢
   go_enter Tryz.func44,Tryz.ntmps44
   go_wp2
   refine bodyPost_ret (v:=.tuple #[.agg #[.string a,.string b,.string c,.string e,.bool h,.bool k,.int .i64 (R:Int),.int .i64 (O:Int),.int .i64 (M:Int),.bool D,.int .i64 (f:Int),.int .i64 (p:Int),.int .i64 (q:Int),.bool false],.int .i64 9]) (by simp [results,Tryz.results44,go_sem]) rfl ?_
   exact ⟨rfl,(by repeat (first | exact bel1 w _ | refine Below.drew ?_ | refine qan ?_ _ | refine qab ?_ _))⟩
  ·by_cases hrc:recC (evR l.ep (l.sq + 1) (ek,ed))=0
   rotate_left
   ·have HP:Hid (addG l (ek,ed)=(l,2)):=by show _=_;rw [HQ.out,hs,if_neg (by decide),if_neg h9,if_pos hrc]
    rw [HP.out]
    have HE:Hid (rlOf l=⟨rdOf l.d,l.file,l.ep,l.sq,false⟩):=by show _=_;rw [←hs];rfl
    have HC:=hI (fun W=>qfg (evR l.ep (l.sq + 1) (ek,ed)) W hez hrc)
    unfold qex
    dsimp only
    rw [HE.out]
    have h9':¬ (1000000:Int)≤(l.sq:Int):=by omega
    unfold recV evR at HC
    clear HQ HP HE hok ho hf h9 hs hrc
    generalize rdOf l.d=r
    obtain ⟨d,f,p,q,s⟩:=l
    obtain ⟨a,b,c,e,h,k,R,O,M,D⟩:=r
    rw [qch]
    dsimp only at h9' hsq HC ⊢
    go_enter Tryz.func44,Tryz.ntmps44
    go_wp2_with fail
    refine (HC.out _).mono ?_
    rintro x w1 ⟨rfl,hb1⟩
    have HB1:=hI (qac (qab (qab (bel1 w _) _) _) hb1)
    have HX1:Hid (w1.heap[w.heap.size]?=some (.cells #[.string a,.string b,.string c,.string e,.bool h,.bool k,.int .i64 (R:Int),.int .i64 (O:Int),.int .i64 (M:Int),.bool D,.int .i64 (f:Int),.int .i64 (p:Int),.int .i64 (q:Int),.bool false] 41 (0,0))):=(hb1.block _ (by simp;omega)).trans (qed w _ _ _).1
    have HY1:Hid (w1.heap[w.heap.size + 2]?=some (.cells #[.string ⟨#[]⟩,.string ⟨#[]⟩,.string ⟨#[]⟩,.string ⟨#[]⟩,.bool false,.bool false,.int .i64 0,.int .i64 0,.int .i64 0,.bool false,.int .i64 0,.int .i64 0,.int .i64 0,.bool false] 41 (0,0))):=(hb1.block _ (by simp)).trans (qed w _ _ _).2
    clear hb1 HC
    obtain ⟨p0,p1,p2,p3,p4,p5,p6,p7,p8,p9,p10,p11,p12,p13⟩:=qaf HX1.out
    obtain ⟨y0,y1,y2,y3,y4,y5,y6,y7,y8,y9,y10,y11,y12,y13⟩:=qaf HY1.out
    obtain ⟨z0,z1,z2,z3,z4,z5,z6,z7,z8,z9,z10,z11,z12,z13⟩:=qal HY1.out
    go_wp2
    refine bodyPost_ret (v:=.tuple #[.agg #[.string a,.string b,.string c,.string e,.bool h,.bool k,.int .i64 (R:Int),.int .i64 (O:Int),.int .i64 (M:Int),.bool D,.int .i64 (f:Int),.int .i64 (p:Int),.int .i64 (q:Int),.bool false],.int .i64 2]) (by simp [results,Tryz.results44,go_sem,y0,y1,y2,y3,y4,y5,y6,y7,y8,y9,y10,y11,y12,y13]) rfl ?_
    exact ⟨rfl,qbo HB1.out (Nat.le_add_right _ 2)⟩
   have HC:=hI (fun W=>qga (evR l.ep (l.sq + 1) (ek,ed)) W hez hrc)
   have HF:Hid (∀ W,Calls Tryz.prog 71 #[.string ⟨(recB (evR l.ep (l.sq + 1) (ek,ed))).toArray⟩] W fun e w'=>e=.returned (.tuple #[.string ⟨(qak (recB (evR l.ep (l.sq + 1) (ek,ed)))).toArray⟩,.int .i64 0])∧Below W.heap.size W w'):=fun W=>by
    have:=qls ⟨(recB (evR l.ep (l.sq + 1) (ek,ed))).toArray⟩ W (by rw [qbb];have:=qhe hrc;omega)
    rw [frW_of] at this
    exact this
   obtain ⟨fb,hfb⟩:∃ y:ByteArray,⟨(qak (recB (evR l.ep (l.sq + 1) (ek,ed)))).toArray⟩=y:=⟨_,rfl⟩
   have hfs:fb.size≤2000000000:=by
    rw [←hfb,qbb]
    have:=qon hrc
    omega
   rw [hs,if_neg (by decide),if_neg h9,if_neg (fun hx=>hx hrc),hfb] at HQ
   rw [hfb] at HF
   have HR:=hI (fun (W:World)=>qlp (rdOf l.d) (l.file:Int) fb hfs W (qfj hok (by omega)))
   rw [qvx hok] at HR
   generalize appQ l.d (l.file:Int) fb=X at HR HQ
   obtain ⟨dx,cx⟩:=X
   dsimp only at HQ
   obtain ⟨Z,hZ⟩:∃ Z,addG l (ek,ed)=Z:=⟨_,rfl⟩
   rw [hZ] at HQ ⊢
   have HE1:Hid (Z=shutG l dx cx→rlOf Z.1=⟨rdOf dx,l.file,l.ep,l.sq,false || cx == 20⟩∧Z.2=cx):=fun hx=>by rw [hx,←hs];exact ⟨rfl,rfl⟩
   have HE2:Hid (Z=(⟨dx,l.file,l.ep,l.sq + 1,false⟩,0)→rlOf Z.1=⟨rdOf dx,l.file,l.ep,l.sq + 1,false⟩∧Z.2=0):=fun hx=>by rw [hx];exact ⟨rfl,rfl⟩
   have HE:Hid (rlOf l=⟨rdOf l.d,l.file,l.ep,l.sq,false⟩):=by show _=_;rw [←hs];rfl
   rw [HE.out]
   have h9':¬ (1000000:Int)≤(l.sq:Int):=by omega
   have hfl:l.file≤1:=by omega
   generalize (⟨(recB (evR l.ep (l.sq + 1) (ek,ed))).toArray⟩:ByteArray)=rb at HF HC
   unfold recV evR at HC
   clear HE hok ho hf h9 hs hrc hZ hfb hfs
   generalize rdOf dx=r1 at HR HE1 HE2
   generalize rdOf l.d=r at HR ⊢
   obtain ⟨d,f,p,q,s⟩:=l
   obtain ⟨a,b,c,e,h,k,R,O,M,D⟩:=r
   obtain ⟨a1,b1,c1,e1,h1,k1,R1,O1,M1,D1⟩:=r1
   obtain ⟨s1,hs1⟩:∃ x,(false || cx == 20)=x:=⟨_,rfl⟩
   rw [hs1] at HE1
   dsimp only at HE1 HE2 HC HQ h9' hsq hfl ⊢
   have HS:=hI (qej a1 b1 c1 e1 h1 k1 D1 false s1 R1 O1 M1 f p q cx hs1)
   clear hs1
   rw [qch]
   unfold qgp rdV qcc at HR
   dsimp only at HR
   go_enter Tryz.func44,Tryz.ntmps44
   go_wp2_with fail
   refine (HC.out _).mono ?_
   rintro x w1 ⟨rfl,hb1⟩
   have HB1:=hI (qac (qab (qab (bel1 w _) _) _) hb1)
   have HX1:Hid (w1.heap[w.heap.size]?=some (.cells #[.string a,.string b,.string c,.string e,.bool h,.bool k,.int .i64 (R:Int),.int .i64 (O:Int),.int .i64 (M:Int),.bool D,.int .i64 (f:Int),.int .i64 (p:Int),.int .i64 (q:Int),.bool false] 41 (0,0))):=(hb1.block _ (by simp;omega)).trans (qed w _ _ _).1
   have HY1:Hid (w1.heap[w.heap.size + 2]?=some (.cells #[.string ⟨#[]⟩,.string ⟨#[]⟩,.string ⟨#[]⟩,.string ⟨#[]⟩,.bool false,.bool false,.int .i64 0,.int .i64 0,.int .i64 0,.bool false,.int .i64 0,.int .i64 0,.int .i64 0,.bool false] 41 (0,0))):=(hb1.block _ (by simp)).trans (qed w _ _ _).2
   clear hb1 HC
   go_wp2_with fail
   refine (HF.out _).mono ?_
   rintro x w2 ⟨rfl,hb2⟩
   have HB2:=hI (qac HB1.out hb2)
   have HX2:Hid (w2.heap[w.heap.size]?=some (.cells #[.string a,.string b,.string c,.string e,.bool h,.bool k,.int .i64 (R:Int),.int .i64 (O:Int),.int .i64 (M:Int),.bool D,.int .i64 (f:Int),.int .i64 (p:Int),.int .i64 (q:Int),.bool false] 41 (0,0))):=(hb2.block _ (qaa HX1.out)).trans HX1.out
   have HY2:Hid (w2.heap[w.heap.size + 2]?=some (.cells #[.string ⟨#[]⟩,.string ⟨#[]⟩,.string ⟨#[]⟩,.string ⟨#[]⟩,.bool false,.bool false,.int .i64 0,.int .i64 0,.int .i64 0,.bool false,.int .i64 0,.int .i64 0,.int .i64 0,.bool false] 41 (0,0))):=(hb2.block _ (qaa HY1.out)).trans HY1.out
   clear hb2 HF HX1 HY1 HB1
   obtain ⟨p0,p1,p2,p3,p4,p5,p6,p7,p8,p9,p10,p11,p12,p13⟩:=qaf HX2.out
   go_wp2_with fail
   refine (HR.out _).mono ?_
   rintro x w3 ⟨rfl,hb3⟩
   have HB3:=hI (qac HB2.out hb3)
   have HX3:Hid (w3.heap[w.heap.size]?=some (.cells #[.string a,.string b,.string c,.string e,.bool h,.bool k,.int .i64 (R:Int),.int .i64 (O:Int),.int .i64 (M:Int),.bool D,.int .i64 (f:Int),.int .i64 (p:Int),.int .i64 (q:Int),.bool false] 41 (0,0))):=(hb3.block _ (qaa HX2.out)).trans HX2.out
   have HY3:Hid (w3.heap[w.heap.size + 2]?=some (.cells #[.string ⟨#[]⟩,.string ⟨#[]⟩,.string ⟨#[]⟩,.string ⟨#[]⟩,.bool false,.bool false,.int .i64 0,.int .i64 0,.int .i64 0,.bool false,.int .i64 0,.int .i64 0,.int .i64 0,.bool false] 41 (0,0))):=(hb3.block _ (qaa HY2.out)).trans HY2.out
   clear hb3 HR HX2 HY2 HB2 p0 p1 p2 p3 p4 p5 p6 p7 p8 p9 p10 p11 p12 p13
   obtain ⟨p0,p1,p2,p3,p4,p5,p6,p7,p8,p9,p10,p11,p12,p13⟩:=qaf HX3.out
   obtain ⟨q0,q1,q2,q3,q4,q5,q6,q7,q8,q9,q10,q11,q12,q13⟩:=qal HX3.out
   by_cases hc:cx≠0
   ·have hn:((cx:Int) != 0)=true:=by simp;omega
    have HEE:=hI (HE1.out (by rw [HQ.out,if_pos hc]))
    clear HQ hc HE1 HE2
    go_wp2_with fail
    refine (HS.out _).mono ?_
    rintro _ wz ⟨rfl,hbz⟩
    have HBZ:=hI (qac (qsg HB3.out (Nat.le_refl _)) hbz)
    have hne:w.heap.size + 2≠w.heap.size:=by omega
    have HYZ:Hid (wz.heap[w.heap.size + 2]?=some (.cells #[.string ⟨#[]⟩,.string ⟨#[]⟩,.string ⟨#[]⟩,.string ⟨#[]⟩,.bool false,.bool false,.int .i64 0,.int .i64 0,.int .i64 0,.bool false,.int .i64 0,.int .i64 0,.int .i64 0,.bool false] 41 (0,0))):=(hbz.block _ (qaa (qhx HY3.out hne))).trans (qhx HY3.out hne)
    clear hbz HS HX3 HY3 HB3 hne p0 p1 p2 p3 p4 p5 p6 p7 p8 p9 p10 p11 p12 p13 q0 q1 q2 q3 q4 q5 q6 q7 q8 q9 q10 q11 q12 q13
    obtain ⟨y0,y1,y2,y3,y4,y5,y6,y7,y8,y9,y10,y11,y12,y13⟩:=qaf HYZ.out
    obtain ⟨z0,z1,z2,z3,z4,z5,z6,z7,z8,z9,z10,z11,z12,z13⟩:=qal HYZ.out
    go_wp2
    refine bodyPost_ret (v:=.tuple #[.agg #[.string a1,.string b1,.string c1,.string e1,.bool h1,.bool k1,.int .i64 (R1:Int),.int .i64 (O1:Int),.int .i64 (M1:Int),.bool D1,.int .i64 (f:Int),.int .i64 (p:Int),.int .i64 (q:Int),.bool s1],.int .i64 (cx:Int)]) (by simp [results,Tryz.results44,go_sem,y0,y1,y2,y3,y4,y5,y6,y7,y8,y9,y10,y11,y12,y13]) rfl ?_
    exact qhj HEE.out.1 HEE.out.2 rfl (qbo HBZ.out (Nat.le_add_right _ 2))
   ·have HEE:=hI (HE2.out (by rw [HQ.out,if_neg hc]))
    obtain rfl:cx=0:=by omega
    clear HQ hc HE1 HE2 HS
    go_upto_region 13 with (fail)
    generalize hw5:(((((((((((w3.setCell ⟨w.heap.size,0,none⟩ (.string a1)).setCell ⟨w.heap.size,1,none⟩ (.string b1)).setCell ⟨w.heap.size,2,none⟩ (.string c1)).setCell ⟨w.heap.size,3,none⟩ (.string e1)).setCell ⟨w.heap.size,4,none⟩ (.bool h1)).setCell ⟨w.heap.size,5,none⟩ (.bool k1)).setCell ⟨w.heap.size,6,none⟩ (.int .i64 (R1:Int))).setCell ⟨w.heap.size,7,none⟩ (.int .i64 (O1:Int))).setCell ⟨w.heap.size,8,none⟩ (.int .i64 (M1:Int))).setCell ⟨w.heap.size,9,none⟩ (.bool D1)).setCell ⟨w.heap.size,12,none⟩ (.int .i64 ((q:Int) + 1)))=w5
    have hne:w.heap.size + 2≠w.heap.size:=by omega
    have HB5:Hid (Below w.heap.size w w5):=by rw [←hw5];exact (qsg HB3.out (Nat.le_refl _)).setCell (Nat.le_refl _) _
    have HX5:Hid (w5.heap[w.heap.size]?=some (.cells #[.string a1,.string b1,.string c1,.string e1,.bool h1,.bool k1,.int .i64 (R1:Int),.int .i64 (O1:Int),.int .i64 (M1:Int),.bool D1,.int .i64 (f:Int),.int .i64 (p:Int),.int .i64 ((q:Int) + 1),.bool false] 41 (0,0))):=by rw [←hw5];exact set11 HX3.out
    have HY5:Hid (w5.heap[w.heap.size + 2]?=some (.cells #[.string ⟨#[]⟩,.string ⟨#[]⟩,.string ⟨#[]⟩,.string ⟨#[]⟩,.bool false,.bool false,.int .i64 0,.int .i64 0,.int .i64 0,.bool false,.int .i64 0,.int .i64 0,.int .i64 0,.bool false] 41 (0,0))):=by rw [←hw5];exact (Below.heap_setCell _ _ _ _ hne).trans (qhx HY3.out hne)
    clear hw5 HX3 HY3 HB3 hne p0 p1 p2 p3 p4 p5 p6 p7 p8 p9 p10 p11 p12 p13 q0 q1 q2 q3 q4 q5 q6 q7 q8 q9 q10 q11 q12 q13
    obtain ⟨p0,p1,p2,p3,p4,p5,p6,p7,p8,p9,p10,p11,p12,p13⟩:=qaf HX5.out
    obtain ⟨y0,y1,y2,y3,y4,y5,y6,y7,y8,y9,y10,y11,y12,y13⟩:=qaf HY5.out
    obtain ⟨z0,z1,z2,z3,z4,z5,z6,z7,z8,z9,z10,z11,z12,z13⟩:=qal HY5.out
    go_wp2
    refine bodyPost_ret (v:=.tuple #[.agg #[.string a1,.string b1,.string c1,.string e1,.bool h1,.bool k1,.int .i64 (R1:Int),.int .i64 (O1:Int),.int .i64 (M1:Int),.bool D1,.int .i64 (f:Int),.int .i64 (p:Int),.int .i64 ((q:Int) + 1),.bool false],.int .i64 0]) (by simp [results,Tryz.results44,go_sem,y0,y1,y2,y3,y4,y5,y6,y7,y8,y9,y10,y11,y12,y13]) rfl ?_
    exact qhj HEE.out.1 HEE.out.2 rfl (qbo HB5.out (Nat.le_add_right _ 2))
 ·have HP:Hid (addG l (ek,ed)=(l,20)):=by show _=_;rw [HQ.out,hs];rw [if_pos rfl]
  rw [HP.out]
  have HE:Hid (rlOf l=⟨rdOf l.d,l.file,l.ep,l.sq,true⟩):=by show _=_;rw [←hs];rfl
  unfold qex
  dsimp only
  rw [HE.out]
  clear HQ HP HE hok ho hf hsq hs
  generalize rdOf l.d=r
  obtain ⟨d,f,p,q,s⟩:=l
  obtain ⟨a,b,c,e,h,k,R,O,M,D⟩:=r
  rw [qch]
  dsimp only at ⊢
  go_enter Tryz.func44,Tryz.ntmps44
  go_wp2
  refine bodyPost_ret (v:=.tuple #[.agg #[.string a,.string b,.string c,.string e,.bool h,.bool k,.int .i64 (R:Int),.int .i64 (O:Int),.int .i64 (M:Int),.bool D,.int .i64 (f:Int),.int .i64 (p:Int),.int .i64 (q:Int),.bool true],.int .i64 20]) (by simp [results,Tryz.results44,go_sem]) rfl ?_
  exact ⟨rfl,(by repeat (first | exact bel1 w _ | refine Below.drew ?_ | refine qan ?_ _ | refine qab ?_ _))⟩
end Go.Proofs.YtjkecckndfcbjaaGreatDoor
namespace Go.Proofs.YtjkecckndfcbjaaGreatDoor
open Go.RowKit Go.Sort Crc Nb
set_option maxRecDepth 100000
def qse (h g:Nat) (x:LG) (w:World) (e:Ending) (w':World):Prop:=e=.returned (.tuple #[.pointer (some ⟨h,0,none⟩),rlV (rlOf x),.bool true])∧LAt w' h g x∧But2 g h w w'
theorem But2.heapK {g h:Nat} {w w':World} (x:But2 g h w w') {k:Nat} {o:Obj} (hk:w.heap[k]?=some o) (hg:g < k) (hh:h < k):w'.heap[k]?=some o:=x.heap hk (by omega) (by omega)
theorem Glob.ne_dsk {w:World} {g:Nat} {d:DK} (h:Glob w) (x:DAt w g d):0≠g:=fun e=>by
 subst e
 have h1:=qad x 0
 unfold Glob at h
 rw [h1] at h
 injection h with h
 cases h
theorem Glob.ne_log {w:World} {g k:Nat} {l:LG} (h:Glob w) (x:LAt w k g l):0≠k:=fun e=>by
 subst e
 have h1:=qad x.box 0
 unfold Glob at h
 rw [h1] at h
 injection h with h
 cases h
theorem Glob.but2 {w w':World} {g k:Nat} {l:LG} (h:Glob w) (x:LAt w k g l) (hb:But2 g k w w'):Glob w':=(hb.cellA (p:=⟨0,0,none⟩) (qam h) (h.ne_dsk x.dsk) (h.ne_log x)).trans h
theorem qjz {w W:World} {b:Nat} {v0 v1 v2 v3 v4 v5 v6 v7 v8 v9 v10 v11 v12 v13:Value} (h:But b w W):But b w ((((((((((((((W.setCell ⟨b,0,none⟩ v0).setCell ⟨b,1,none⟩ v1).setCell ⟨b,2,none⟩ v2).setCell ⟨b,3,none⟩ v3).setCell ⟨b,4,none⟩ v4).setCell ⟨b,5,none⟩ v5).setCell ⟨b,6,none⟩ v6).setCell ⟨b,7,none⟩ v7).setCell ⟨b,8,none⟩ v8).setCell ⟨b,9,none⟩ v9).setCell ⟨b,10,none⟩ v10).setCell ⟨b,11,none⟩ v11).setCell ⟨b,12,none⟩ v12).setCell ⟨b,13,none⟩ v13):=by
 repeat refine But.set ?_ _ _
 exact h
theorem lat14 {W:World} {b k g:Nat} {l:LG} {v0 v1 v2 v3 v4 v5 v6 v7 v8 v9 v10 v11 v12 v13:Value} (x:LAt W k g l) (h1:g≠b) (h2:k≠b):LAt ((((((((((((((W.setCell ⟨b,0,none⟩ v0).setCell ⟨b,1,none⟩ v1).setCell ⟨b,2,none⟩ v2).setCell ⟨b,3,none⟩ v3).setCell ⟨b,4,none⟩ v4).setCell ⟨b,5,none⟩ v5).setCell ⟨b,6,none⟩ v6).setCell ⟨b,7,none⟩ v7).setCell ⟨b,8,none⟩ v8).setCell ⟨b,9,none⟩ v9).setCell ⟨b,10,none⟩ v10).setCell ⟨b,11,none⟩ v11).setCell ⟨b,12,none⟩ v12).setCell ⟨b,13,none⟩ v13) k g l:=x.but (qjz (But.refl b W)) h1 h2
theorem qpg {w W:World} {b k g:Nat} {v0 v1 v2 v3 v4 v5 v6 v7 v8 v9 v10 v11 v12 v13:Value} (x:But2 g k w W) (hb:w.heap.size≤b):But2 g k w ((((((((((((((W.setCell ⟨b,0,none⟩ v0).setCell ⟨b,1,none⟩ v1).setCell ⟨b,2,none⟩ v2).setCell ⟨b,3,none⟩ v3).setCell ⟨b,4,none⟩ v4).setCell ⟨b,5,none⟩ v5).setCell ⟨b,6,none⟩ v6).setCell ⟨b,7,none⟩ v7).setCell ⟨b,8,none⟩ v8).setCell ⟨b,9,none⟩ v9).setCell ⟨b,10,none⟩ v10).setCell ⟨b,11,none⟩ v11).setCell ⟨b,12,none⟩ v12).setCell ⟨b,13,none⟩ v13):=by
 have h:=qjz (v0:=v0) (v1:=v1) (v2:=v2) (v3:=v3) (v4:=v4) (v5:=v5) (v6:=v6) (v7:=v7) (v8:=v8) (v9:=v9) (v10:=v10) (v11:=v11) (v12:=v12) (v13:=v13) (But.refl b W)
 exact ⟨h.os.trans x.os,h.tape.trans x.tape,h.output.trans x.output,Nat.le_trans x.size h.size,fun i hi h1 h2=>(h.block i (Nat.lt_of_lt_of_le hi x.size) (by omega)).trans (x.block i hi h1 h2)⟩
theorem noFltL {w:World} {b:Nat} {cs:Array Value} (h:w.heap[b]?=some (.cells cs 41 (0,0))):¬ Flt w b:=fun ⟨cs,f,h1⟩=>by
 rw [h] at h1
 injection h1 with h1
 injection h1 with _ h2
 exact absurd h2 (by decide)
theorem qph {W:World} {b:Nat} {t:TypeId} {v0 v1 v2 v3 v4 v5 v6 v7 v8 v9 v10 v11 v12 v13 x0 x1 x2 x3 x4 x5 x6 x7 x8 x9 x10 x11 x12 x13:Value} (h:W.heap[b]?=some (.cells #[x0,x1,x2,x3,x4,x5,x6,x7,x8,x9,x10,x11,x12,x13] t (0,0))):((((((((((((((W.setCell ⟨b,0,none⟩ v0).setCell ⟨b,1,none⟩ v1).setCell ⟨b,2,none⟩ v2).setCell ⟨b,3,none⟩ v3).setCell ⟨b,4,none⟩ v4).setCell ⟨b,5,none⟩ v5).setCell ⟨b,6,none⟩ v6).setCell ⟨b,7,none⟩ v7).setCell ⟨b,8,none⟩ v8).setCell ⟨b,9,none⟩ v9).setCell ⟨b,10,none⟩ v10).setCell ⟨b,11,none⟩ v11).setCell ⟨b,12,none⟩ v12).setCell ⟨b,13,none⟩ v13).heap[b]?=some (.cells #[v0,v1,v2,v3,v4,v5,v6,v7,v8,v9,v10,v11,v12,v13] t (0,0)):=by
 have h1:=qae (qae (qae (qae (qae (qae (qae (qae (qae (qae (qae (qae (qae (qae h 0 v0) 1 v1) 2 v2) 3 v3) 4 v4) 5 v5) 6 v6) 7 v7) 8 v8) 9 v9) 10 v10) 11 v11) 12 v12) 13 v13
 rw [h1]
 simp only [List.setIfInBounds_toArray,List.set_cons_succ,List.set_cons_zero]
theorem qmk {c:Nat} {e:Ending} {w:World} (h:ErL c e w):∃ v ops,e=.returned v∧ErrV w ops (c:Int) v:=h
set_option maxHeartbeats 4000000 in
theorem qsf (l:LG) (h g:Nat) (ek o1 o2 o4 o7:Int) (ed tx o3 o5 o8:ByteArray) (o6 o9:Bool) (w:World) (hg:Glob w) (x:LAt w h g l) (hok:l.d.ok) (ho:l.d.ops≤999999990) (hf:l.file=0∨l.file=1) :
 Calls Tryz.prog 16 #[.pointer (some ⟨h,0,none⟩),.pointer (some ⟨g,0,none⟩),rlV (rlOf l),.agg #[.int .i64 1,.int .i64 ek,.string ed,.string tx,.int .i64 o1,.int .i64 o2,.string o3,.int .i64 o4,.string o5,.bool o6,.int .i64 o7,.string o8,.bool o9]] w (qse h g (qgo l).1 w):=by
 have HGK:=hI (fun (W:World) (hb:But2 g h w W)=>Glob.but2 hg x hb)
 have HS:=hI (fun (W:World) (hb:Below w.heap.size w W)=>qrh l h g W (x.below hb) hok ho hf)
 have HR:=hI (fun (W:World)=>qyq l W hok ho hf)
 have hlh:=x.lth
 have hlg:=x.ltg
 generalize qgo l=X at HS HR ⊢
 obtain ⟨X,cx⟩:=X
 obtain ⟨lx,hlx⟩:∃ y,rlOf X=y:=⟨_,rfl⟩
 obtain ⟨ll,hll⟩:∃ y,rlOf l=y:=⟨_,rfl⟩
 unfold qse
 unfold qex at HR
 unfold LogP at HS
 dsimp only at HS HR ⊢
 rw [hlx,hll] at HR
 rw [hlx,hll]
 clear hlx hll hok ho hf x hg
 obtain ⟨⟨a,b,c,e,hh,k,R,O,M,D⟩,f,p,q,s⟩:=ll
 obtain ⟨⟨a1,b1,c1,e1,h1,k1,R1,O1,M1,D1⟩,fX,pX,qX,sX⟩:=lx
 rw [qch,qch] at HR
 rw [qch,qch]
 go_enter Tryz.func16,Tryz.ntmps16
 go_wp2_with fail
 refine (HS.out _ (qab (qab (bel1 w _) _) _)).mono ?_
 rintro x w1 ⟨he,hx1,hb1⟩
 obtain ⟨v,ops,rfl,hv⟩:=qmk he
 have HV1:=hI hv
 have X1:=hI hx1
 have HX1:Hid (w1.heap[w.heap.size]?=some (.cells #[.string a,.string b,.string c,.string e,.bool hh,.bool k,.int .i64 (R:Int),.int .i64 (O:Int),.int .i64 (M:Int),.bool D,.int .i64 (f:Int),.int .i64 (p:Int),.int .i64 (q:Int),.bool s] 41 (0,0))):=hb1.heapK (qed w _ _ _).1 hlg hlh
 have HY1:Hid (w1.heap[w.heap.size + 2]?=some (.cells #[.string ⟨#[]⟩,.string ⟨#[]⟩,.string ⟨#[]⟩,.string ⟨#[]⟩,.bool false,.bool false,.int .i64 0,.int .i64 0,.int .i64 0,.bool false,.int .i64 0,.int .i64 0,.int .i64 0,.bool false] 41 (0,0))):=hb1.heapK (qed w _ _ _).2 (by omega) (by omega)
 have HB1:=hI ((But2.of (g:=g) (h:=h) (qab (qab (bel1 w _) _) _)).trans hb1)
 clear he hv hx1 hb1 HS
 obtain ⟨p0,p1,p2,p3,p4,p5,p6,p7,p8,p9,p10,p11,p12,p13⟩:=qaf HX1.out
 go_wp2_with fail
 refine (HR.out _).mono ?_
 rintro x w2 ⟨rfl,hb2⟩
 have HX2:Hid (w2.heap[w.heap.size]?=some (.cells #[.string a,.string b,.string c,.string e,.bool hh,.bool k,.int .i64 (R:Int),.int .i64 (O:Int),.int .i64 (M:Int),.bool D,.int .i64 (f:Int),.int .i64 (p:Int),.int .i64 (q:Int),.bool s] 41 (0,0))):=(hb2.block _ (qaa HX1.out)).trans HX1.out
 have HY2:Hid (w2.heap[w.heap.size + 2]?=some (.cells #[.string ⟨#[]⟩,.string ⟨#[]⟩,.string ⟨#[]⟩,.string ⟨#[]⟩,.bool false,.bool false,.int .i64 0,.int .i64 0,.int .i64 0,.bool false,.int .i64 0,.int .i64 0,.int .i64 0,.bool false] 41 (0,0))):=(hb2.block _ (qaa HY1.out)).trans HY1.out
 have X2:=hI (X1.out.below hb2)
 have HV2:=hI (HV1.out.below hb2)
 have HB2:=hI (HB1.out.trans (But2.of (g:=g) (h:=h) hb2))
 clear hb2 HR HX1 HY1 X1 HV1 HB1 p0 p1 p2 p3 p4 p5 p6 p7 p8 p9 p10 p11 p12 p13
 obtain ⟨p0,p1,p2,p3,p4,p5,p6,p7,p8,p9,p10,p11,p12,p13⟩:=qaf HX2.out
 obtain ⟨q0,q1,q2,q3,q4,q5,q6,q7,q8,q9,q10,q11,q12,q13⟩:=qal HX2.out
 go_upto_region 23 with (fail)
 generalize hw5:((((((((((((((w2.setCell ⟨w.heap.size,0,none⟩ (.string a1)).setCell ⟨w.heap.size,1,none⟩ (.string b1)).setCell ⟨w.heap.size,2,none⟩ (.string c1)).setCell ⟨w.heap.size,3,none⟩ (.string e1)).setCell ⟨w.heap.size,4,none⟩ (.bool h1)).setCell ⟨w.heap.size,5,none⟩ (.bool k1)).setCell ⟨w.heap.size,6,none⟩ (.int .i64 (R1:Int))).setCell ⟨w.heap.size,7,none⟩ (.int .i64 (O1:Int))).setCell ⟨w.heap.size,8,none⟩ (.int .i64 (M1:Int))).setCell ⟨w.heap.size,9,none⟩ (.bool D1)).setCell ⟨w.heap.size,10,none⟩ (.int .i64 (fX:Int))).setCell ⟨w.heap.size,11,none⟩ (.int .i64 (pX:Int))).setCell ⟨w.heap.size,12,none⟩ (.int .i64 (qX:Int))).setCell ⟨w.heap.size,13,none⟩ (.bool sX))=w5
 have hbg:g≠w.heap.size:=by omega
 have hbh:h≠w.heap.size:=by omega
 have HBU:Hid (But w.heap.size w2 w5):=by rw [←hw5];exact qjz (But.refl _ _)
 have HX5:Hid (w5.heap[w.heap.size]?=some (.cells #[.string a1,.string b1,.string c1,.string e1,.bool h1,.bool k1,.int .i64 (R1:Int),.int .i64 (O1:Int),.int .i64 (M1:Int),.bool D1,.int .i64 (fX:Int),.int .i64 (pX:Int),.int .i64 (qX:Int),.bool sX] 41 (0,0))):=by rw [←hw5];exact qph HX2.out
 have HY5:Hid (w5.heap[w.heap.size + 2]?=some (.cells #[.string ⟨#[]⟩,.string ⟨#[]⟩,.string ⟨#[]⟩,.string ⟨#[]⟩,.bool false,.bool false,.int .i64 0,.int .i64 0,.int .i64 0,.bool false,.int .i64 0,.int .i64 0,.int .i64 0,.bool false] 41 (0,0))):=HBU.out.heap HY2.out (by omega)
 have X5:=hI (X2.out.but HBU.out hbg hbh)
 have HV5:=hI (HV2.out.but HBU.out (noFltL HX2.out))
 have HB5:Hid (But2 g h w w5):=⟨HBU.out.os.trans HB2.out.os,HBU.out.tape.trans HB2.out.tape,HBU.out.output.trans HB2.out.output,Nat.le_trans HB2.out.size HBU.out.size,fun i hi h1 h2=>(HBU.out.block i (Nat.lt_of_lt_of_le hi HB2.out.size) (Nat.ne_of_lt hi)).trans (HB2.out.block i hi h1 h2)⟩
 have HC:=hI (fun (W:World) (hb:Below w5.heap.size w5 W)=>qgh ops (cx:Int) v W ((HGK.out w5 HB5.out).below hb) (HV5.out.below hb))
 clear hw5 HBU HX2 HY2 X2 HV2 HB2 HGK p0 p1 p2 p3 p4 p5 p6 p7 p8 p9 p10 p11 p12 p13 q0 q1 q2 q3 q4 q5 q6 q7 q8 q9 q10 q11 q12 q13
 obtain ⟨p0,p1,p2,p3,p4,p5,p6,p7,p8,p9,p10,p11,p12,p13⟩:=qaf HX5.out
 obtain ⟨y0,y1,y2,y3,y4,y5,y6,y7,y8,y9,y10,y11,y12,y13⟩:=qaf HY5.out
 obtain ⟨z0,z1,z2,z3,z4,z5,z6,z7,z8,z9,z10,z11,z12,z13⟩:=qal HY5.out
 go_region_with (go_at_call 15;refine (HC.out _ (by first | exact Below.refl _ _ | exact qan (Below.refl _ _) _ | exact Below.drew (Below.refl _ _))).mono ?_;rintro e w6 ⟨rfl,hb6⟩;have HX6:=hI ((hb6.block _ (qaa HX5.out)).trans HX5.out);have HY6:=hI ((hb6.block _ (qaa HY5.out)).trans HY5.out);(have HB6:Hid (Below w5.heap.size w5 w6):=(by first | exact hb6 | exact qac (Below.drew (Below.refl _ _)) hb6 | exact qac (qan (Below.refl _ _) _) hb6));clear hb6;obtain ⟨r0,r1,r2,r3,r4,r5,r6,r7,r8,r9,r10,r11,r12,r13⟩:=qaf HX6.out;obtain ⟨u0,u1,u2,u3,u4,u5,u6,u7,u8,u9,u10,u11,u12,u13⟩:=qaf HY6.out;obtain ⟨v0,v1,v2,v3,v4,v5,v6,v7,v8,v9,v10,v11,v12,v13⟩:=qal HY6.out)
 all_goals go_wp2
 all_goals (refine bodyPost_ret (v:=.tuple #[.pointer (some ⟨h,0,none⟩),.agg #[.string a1,.string b1,.string c1,.string e1,.bool h1,.bool k1,.int .i64 (R1:Int),.int .i64 (O1:Int),.int .i64 (M1:Int),.bool D1,.int .i64 (fX:Int),.int .i64 (pX:Int),.int .i64 (qX:Int),.bool sX],.bool true]) (by simp [results,Tryz.results16,go_sem,u0,u1,u2,u3,u4,u5,u6,u7,u8,u9,u10,u11,u12,u13]) rfl ?_)
 all_goals exact ⟨rfl,lat14 (X5.out.below HB6.out) (by omega) (by omega),qpg (HB5.out.trans (But2.of HB6.out)) (by omega)⟩
end Go.Proofs.YtjkecckndfcbjaaGreatDoor
namespace Go.Proofs.YtjkecckndfcbjaaGreatDoor
open Go.RowKit Go.Sort Crc Nb
set_option maxRecDepth 100000
theorem qws (w:World) (o o2 o3:Obj):(((w.alloc o).alloc o2).alloc o3).heap[w.heap.size + 1]?=some o2:=(Below.heap_alloc _ _ _ (by simp)).trans (qbf w o o2).2
set_option maxHeartbeats 4000000 in
theorem qtu (l:LG) (h g:Nat) (ek o1 o2 o4 o7:Int) (ed tx o3 o5 o8:ByteArray) (o6 o9:Bool) (w:World) (hg:Glob w) (x:LAt w h g l) (hok:l.d.ok) (ho:l.d.ops≤999999990) (hf:l.file=0∨l.file=1) (hsq:l.sq≤1000000) (hez:ed.size≤1000000) :
 Calls Tryz.prog 16 #[.pointer (some ⟨h,0,none⟩),.pointer (some ⟨g,0,none⟩),rlV (rlOf l),.agg #[.int .i64 0,.int .i64 ek,.string ed,.string tx,.int .i64 o1,.int .i64 o2,.string o3,.int .i64 o4,.string o5,.bool o6,.int .i64 o7,.string o8,.bool o9]] w (qse h g (addG l (ek,ed)).1 w):=by
 have HGK:=hI (fun (W:World) (hb:But2 g h w W)=>Glob.but2 hg x hb)
 have HS:=hI (fun (W:World) (hb:Below w.heap.size w W)=>qov l h g (ek,ed) W (hg.below hb) (x.below hb) hok ho hf hsq hez)
 have HR:=hI (fun (W:World)=>rAddL_any l ek ed W hok ho hf hsq hez)
 have hlh:=x.lth
 have hlg:=x.ltg
 generalize addG l (ek,ed)=X at HS HR ⊢
 obtain ⟨X,cx⟩:=X
 obtain ⟨lx,hlx⟩:∃ y,rlOf X=y:=⟨_,rfl⟩
 obtain ⟨ll,hll⟩:∃ y,rlOf l=y:=⟨_,rfl⟩
 unfold qse
 unfold qex at HR
 unfold LogP at HS
 dsimp only at HS HR ⊢
 rw [hlx,hll] at HR
 rw [hlx,hll]
 clear hlx hll hok ho hf x hg
 obtain ⟨⟨a,b,c,e,hh,k,R,O,M,D⟩,f,p,q,s⟩:=ll
 obtain ⟨⟨a1,b1,c1,e1,h1,k1,R1,O1,M1,D1⟩,fX,pX,qX,sX⟩:=lx
 rw [qch,qch] at HR
 rw [qch,qch]
 go_enter Tryz.func16,Tryz.ntmps16
 go_wp2_with fail
 refine (HS.out _ (qab (qab (bel1 w _) _) _)).mono ?_
 rintro x w1 ⟨he,hx1,hb1⟩
 obtain ⟨v,ops,rfl,hv⟩:=qmk he
 have HV1:=hI hv
 have X1:=hI hx1
 have HX1:Hid (w1.heap[w.heap.size]?=some (.cells #[.string a,.string b,.string c,.string e,.bool hh,.bool k,.int .i64 (R:Int),.int .i64 (O:Int),.int .i64 (M:Int),.bool D,.int .i64 (f:Int),.int .i64 (p:Int),.int .i64 (q:Int),.bool s] 41 (0,0))):=hb1.heapK (qed w _ _ _).1 hlg hlh
 have HY1:Hid (w1.heap[w.heap.size + 2]?=some (.cells #[.string ⟨#[]⟩,.string ⟨#[]⟩,.string ⟨#[]⟩,.string ⟨#[]⟩,.bool false,.bool false,.int .i64 0,.int .i64 0,.int .i64 0,.bool false,.int .i64 0,.int .i64 0,.int .i64 0,.bool false] 41 (0,0))):=hb1.heapK (qed w _ _ _).2 (by omega) (by omega)
 have HB1:=hI ((But2.of (g:=g) (h:=h) (qab (qab (bel1 w _) _) _)).trans hb1)
 have HA1:Hid (w1.heap[w.heap.size + 1]?=some (.cells #[.int .i64 0,.int .i64 ek,.string ed,.string tx,.int .i64 o1,.int .i64 o2,.string o3,.int .i64 o4,.string o5,.bool o6,.int .i64 o7,.string o8,.bool o9] 62 (0,0))):=hb1.heapK (qws w _ _ _) (by omega) (by omega)
 have t1:w1.cell? ⟨w.heap.size + 1,1,none⟩=some (.int .i64 ek):=by rw [qad HA1.out];rfl
 have t2:w1.cell? ⟨w.heap.size + 1,2,none⟩=some (.string ed):=by rw [qad HA1.out];rfl
 clear he hv hx1 hb1 HS
 obtain ⟨p0,p1,p2,p3,p4,p5,p6,p7,p8,p9,p10,p11,p12,p13⟩:=qaf HX1.out
 go_wp2_with fail
 refine (HR.out _).mono ?_
 rintro x w2 ⟨rfl,hb2⟩
 have HX2:Hid (w2.heap[w.heap.size]?=some (.cells #[.string a,.string b,.string c,.string e,.bool hh,.bool k,.int .i64 (R:Int),.int .i64 (O:Int),.int .i64 (M:Int),.bool D,.int .i64 (f:Int),.int .i64 (p:Int),.int .i64 (q:Int),.bool s] 41 (0,0))):=(hb2.block _ (qaa HX1.out)).trans HX1.out
 have HY2:Hid (w2.heap[w.heap.size + 2]?=some (.cells #[.string ⟨#[]⟩,.string ⟨#[]⟩,.string ⟨#[]⟩,.string ⟨#[]⟩,.bool false,.bool false,.int .i64 0,.int .i64 0,.int .i64 0,.bool false,.int .i64 0,.int .i64 0,.int .i64 0,.bool false] 41 (0,0))):=(hb2.block _ (qaa HY1.out)).trans HY1.out
 have X2:=hI (X1.out.below hb2)
 have HV2:=hI (HV1.out.below hb2)
 have HB2:=hI (HB1.out.trans (But2.of (g:=g) (h:=h) hb2))
 clear hb2 HR HX1 HY1 X1 HV1 HB1 p0 p1 p2 p3 p4 p5 p6 p7 p8 p9 p10 p11 p12 p13
 obtain ⟨p0,p1,p2,p3,p4,p5,p6,p7,p8,p9,p10,p11,p12,p13⟩:=qaf HX2.out
 obtain ⟨q0,q1,q2,q3,q4,q5,q6,q7,q8,q9,q10,q11,q12,q13⟩:=qal HX2.out
 go_upto_region 23 with (fail)
 generalize hw5:((((((((((((((w2.setCell ⟨w.heap.size,0,none⟩ (.string a1)).setCell ⟨w.heap.size,1,none⟩ (.string b1)).setCell ⟨w.heap.size,2,none⟩ (.string c1)).setCell ⟨w.heap.size,3,none⟩ (.string e1)).setCell ⟨w.heap.size,4,none⟩ (.bool h1)).setCell ⟨w.heap.size,5,none⟩ (.bool k1)).setCell ⟨w.heap.size,6,none⟩ (.int .i64 (R1:Int))).setCell ⟨w.heap.size,7,none⟩ (.int .i64 (O1:Int))).setCell ⟨w.heap.size,8,none⟩ (.int .i64 (M1:Int))).setCell ⟨w.heap.size,9,none⟩ (.bool D1)).setCell ⟨w.heap.size,10,none⟩ (.int .i64 (fX:Int))).setCell ⟨w.heap.size,11,none⟩ (.int .i64 (pX:Int))).setCell ⟨w.heap.size,12,none⟩ (.int .i64 (qX:Int))).setCell ⟨w.heap.size,13,none⟩ (.bool sX))=w5
 have hbg:g≠w.heap.size:=by omega
 have hbh:h≠w.heap.size:=by omega
 have HBU:Hid (But w.heap.size w2 w5):=by rw [←hw5];exact qjz (But.refl _ _)
 have HX5:Hid (w5.heap[w.heap.size]?=some (.cells #[.string a1,.string b1,.string c1,.string e1,.bool h1,.bool k1,.int .i64 (R1:Int),.int .i64 (O1:Int),.int .i64 (M1:Int),.bool D1,.int .i64 (fX:Int),.int .i64 (pX:Int),.int .i64 (qX:Int),.bool sX] 41 (0,0))):=by rw [←hw5];exact qph HX2.out
 have HY5:Hid (w5.heap[w.heap.size + 2]?=some (.cells #[.string ⟨#[]⟩,.string ⟨#[]⟩,.string ⟨#[]⟩,.string ⟨#[]⟩,.bool false,.bool false,.int .i64 0,.int .i64 0,.int .i64 0,.bool false,.int .i64 0,.int .i64 0,.int .i64 0,.bool false] 41 (0,0))):=HBU.out.heap HY2.out (by omega)
 have X5:=hI (X2.out.but HBU.out hbg hbh)
 have HV5:=hI (HV2.out.but HBU.out (noFltL HX2.out))
 have HB5:Hid (But2 g h w w5):=⟨HBU.out.os.trans HB2.out.os,HBU.out.tape.trans HB2.out.tape,HBU.out.output.trans HB2.out.output,Nat.le_trans HB2.out.size HBU.out.size,fun i hi h1 h2=>(HBU.out.block i (Nat.lt_of_lt_of_le hi HB2.out.size) (Nat.ne_of_lt hi)).trans (HB2.out.block i hi h1 h2)⟩
 have HC:=hI (fun (W:World) (hb:Below w5.heap.size w5 W)=>qgh ops (cx:Int) v W ((HGK.out w5 HB5.out).below hb) (HV5.out.below hb))
 clear hw5 HBU HX2 HY2 X2 HV2 HB2 HGK p0 p1 p2 p3 p4 p5 p6 p7 p8 p9 p10 p11 p12 p13 q0 q1 q2 q3 q4 q5 q6 q7 q8 q9 q10 q11 q12 q13
 obtain ⟨p0,p1,p2,p3,p4,p5,p6,p7,p8,p9,p10,p11,p12,p13⟩:=qaf HX5.out
 obtain ⟨y0,y1,y2,y3,y4,y5,y6,y7,y8,y9,y10,y11,y12,y13⟩:=qaf HY5.out
 obtain ⟨z0,z1,z2,z3,z4,z5,z6,z7,z8,z9,z10,z11,z12,z13⟩:=qal HY5.out
 go_region_with (go_at_call 15;refine (HC.out _ (by first | exact Below.refl _ _ | exact qan (Below.refl _ _) _ | exact Below.drew (Below.refl _ _))).mono ?_;rintro e w6 ⟨rfl,hb6⟩;have HX6:=hI ((hb6.block _ (qaa HX5.out)).trans HX5.out);have HY6:=hI ((hb6.block _ (qaa HY5.out)).trans HY5.out);(have HB6:Hid (Below w5.heap.size w5 w6):=(by first | exact hb6 | exact qac (Below.drew (Below.refl _ _)) hb6 | exact qac (qan (Below.refl _ _) _) hb6));clear hb6;obtain ⟨r0,r1,r2,r3,r4,r5,r6,r7,r8,r9,r10,r11,r12,r13⟩:=qaf HX6.out;obtain ⟨u0,u1,u2,u3,u4,u5,u6,u7,u8,u9,u10,u11,u12,u13⟩:=qaf HY6.out;obtain ⟨v0,v1,v2,v3,v4,v5,v6,v7,v8,v9,v10,v11,v12,v13⟩:=qal HY6.out)
 all_goals go_wp2
 all_goals (refine bodyPost_ret (v:=.tuple #[.pointer (some ⟨h,0,none⟩),.agg #[.string a1,.string b1,.string c1,.string e1,.bool h1,.bool k1,.int .i64 (R1:Int),.int .i64 (O1:Int),.int .i64 (M1:Int),.bool D1,.int .i64 (fX:Int),.int .i64 (pX:Int),.int .i64 (qX:Int),.bool sX],.bool true]) (by simp [results,Tryz.results16,go_sem,u0,u1,u2,u3,u4,u5,u6,u7,u8,u9,u10,u11,u12,u13]) rfl ?_)
 all_goals exact ⟨rfl,lat14 (X5.out.below HB6.out) (by omega) (by omega),qpg (HB5.out.trans (But2.of HB6.out)) (by omega)⟩
end Go.Proofs.YtjkecckndfcbjaaGreatDoor
namespace Go.Proofs.YtjkecckndfcbjaaGreatDoor
open Go.RowKit Go.Sort Crc Nb
set_option maxRecDepth 100000
theorem qcn (W:World) (B:Nat):W.ownsRow B 56 2 (.slice none 0 0) (evA []).size (flatK qbm 2 (evA [])).toList:=qei W B _ qbm 2
theorem qcy {w w':World} {g B s n:Nat} {e:TypeId} {v:Value} {xs:List Value} (hr:w.ownsRow B e s v n xs) (x:But g w w') (hB:0 < B) (hh:v.ownBlock≠some g):w'.ownsRow B e s v n xs:=qkm hr (x.right 0) hB hh
theorem qml {d:DK} (hdd:d.dead=false):qdz d 0=(d.f0.s,0)∧qdz d 1=(d.f1.s,0):=by
 constructor <;> (unfold qdz;rw [if_neg (by unfold DK.up;rw [hdd];decide)];rfl)
theorem qiu {W:World} {B s n:Nat} {e:TypeId} {v:Value} {xs:List Value} (h:W.ownsRow B e s v n xs):W.drew.ownsRow B e s v n xs:=h
theorem qat {W:World} {g:Nat} {t:TypeId} {x0 x1 x2 x3 x4 x5 x6 x7 x8 x9:Value} (h:W.heap[g]?=some (.cells #[x0,x1,x2,x3,x4,x5,x6,x7,x8,x9] t (0,0))):W.cell? ⟨g,0,none⟩=some x0∧W.cell? ⟨g,1,none⟩=some x1∧W.cell? ⟨g,2,none⟩=some x2∧W.cell? ⟨g,3,none⟩=some x3∧W.cell? ⟨g,4,none⟩=some x4∧W.cell? ⟨g,5,none⟩=some x5∧W.cell? ⟨g,6,none⟩=some x6∧W.cell? ⟨g,7,none⟩=some x7∧W.cell? ⟨g,8,none⟩=some x8∧W.cell? ⟨g,9,none⟩=some x9:=by
 refine ⟨?_,?_,?_,?_,?_,?_,?_,?_,?_,?_⟩ <;> (rw [qad h];rfl)
theorem qcg {W:World} {g:Nat} {t:TypeId} {x0 x1 x2 x3:Value} (h:W.heap[g]?=some (.cells #[x0,x1,x2,x3] t (0,0))):W.cell? ⟨g,0,none⟩=some x0∧W.cell? ⟨g,1,none⟩=some x1∧W.cell? ⟨g,2,none⟩=some x2∧W.cell? ⟨g,3,none⟩=some x3:=by
 refine ⟨?_,?_,?_,?_⟩ <;> (rw [qad h];rfl)
theorem own14 {W:World} {g B s n:Nat} {e:TypeId} {v:Value} {xs:List Value} {v0 v1 v2 v3 v4 v5 v6 v7 v8 v9 v10 v11 v12 v13:Value} (hr:W.ownsRow B e s v n xs) (hB:0 < B) (hh:v.ownBlock≠some g):((((((((((((((W.setCell ⟨g,0,none⟩ v0).setCell ⟨g,1,none⟩ v1).setCell ⟨g,2,none⟩ v2).setCell ⟨g,3,none⟩ v3).setCell ⟨g,4,none⟩ v4).setCell ⟨g,5,none⟩ v5).setCell ⟨g,6,none⟩ v6).setCell ⟨g,7,none⟩ v7).setCell ⟨g,8,none⟩ v8).setCell ⟨g,9,none⟩ v9).setCell ⟨g,10,none⟩ v10).setCell ⟨g,11,none⟩ v11).setCell ⟨g,12,none⟩ v12).setCell ⟨g,13,none⟩ v13).ownsRow B e s v n xs:=qcy hr (qjz (But.refl g W)) hB hh
end Go.Proofs.YtjkecckndfcbjaaGreatDoor
