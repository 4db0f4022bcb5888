/- Texts that the law leans on. -/
import Derived.Test.YtjkecckndfcbjaaGreatDoorPRlP
import Derived.Test.YtjkecckndfcbjaaGreatDoorPPlyB
namespace Go.Proofs.YtjkecckndfcbjaaGreatDoor
open Go.RowKit Go.Sort Crc Nb
set_option maxRecDepth 100000
def qjg (x:RLg) (st:ByteArray) (evs:List EV) (c:Nat) (w:World) (e:Ending) (w':World):Prop :=
 ∃ v,e=.returned (.tuple #[rlV x,.string st,v,.int .i64 (c:Int)])∧w'.ownsRow w.heap.size 56 2 v (evA evs).size (flatK qbx 2 (evA evs)).toList∧Below w.heap.size w w'
theorem qck {G:OG} {l:LG} {st:ByteArray} {evs:List EV} {c:Nat} {x:RLg} {v:Value} {w w':World} {e:Ending} (hG:G=⟨l,st,evs,c⟩) (hx:rlOf l=x)
 (he:e=.returned (.tuple #[rlV x,.string st,v,.int .i64 (c:Int)])) (hr:w'.ownsRow w.heap.size 56 2 v (evA evs).size (flatK qbx 2 (evA evs)).toList) (hb:Below w.heap.size w w'):qjg (rlOf G.l) G.st G.evs G.e w e w':=by
 subst hG
 subst hx
 exact ⟨v,he,hr,hb⟩
set_option maxHeartbeats 8000000 in
theorem rOpen_0 (d:DK) (first:ByteArray) (w:World) (hok:d.ok) (ho:d.ops≤999999980) (hdd:d.dead=false) (hcs:(qal d.f0).ep=(qal d.f1).ep) :
 Calls Tryz.prog 11 #[rdV (rdOf d),.string first] w (qjg (rlOf (qaw d first).l) (qaw d first).st (qaw d first).evs (qaw d first).e w):=by
 have HRE:=hI (fun (i:Int) (W:World)=>qfh (rdOf d) i W (qen hok (by omega)))
 obtain ⟨r0,hr0⟩:∃ r,rdOf d=r:=⟨_,rfl⟩
 have HL:Hid (∀ f ep sq,rlOf ⟨d,f,ep,sq,false⟩=⟨r0,f,ep,sq,false⟩):=fun f ep sq=>by rw [←hr0];rfl
 have hs0:d.f0.s.size≤1000000:=by have:=hok.fit;have:=hok.room;omega
 have hs1:d.f1.s.size≤1000000:=by have:=hok.fit;have:=hok.room;omega
 have HQ0:Hid (∀ i:Int,qgf (rdOf d) i=qcu d i):=fun i=>qfj hok i
 obtain ⟨GG,hG⟩:∃ G,qaw d first=G:=⟨_,rfl⟩
 rw [hG]
 have HGE:Hid (GG=if (qal d.f0).ep=0∧(qal d.f1).ep=0 then outG (layP ⟨d,1,0,0,false⟩ 1 first []) first [] else if (qal d.f0).ep=(qal d.f1).ep then qfw d 23 else if (qal d.f1).ep < (qal d.f0).ep then qdb d 0 (qal d.f0) else qdb d 1 (qal d.f1)):=by
  show _=_
  rw [←hG]
  unfold qaw
  rw [if_neg (by rw [hdd];simp)]
 obtain ⟨hq0,hq1⟩:=qli hdd
 have HRD0:=hI (fun W=>HRE.out 0 W)
 have HRD1:=hI (fun W=>HRE.out 1 W)
 rw [HQ0.out,hq0,hr0] at HRD0
 rw [HQ0.out,hq1,hr0] at HRD1
 have HTL0:=hI (fun (W:World)=>qfl d.f0.s W hs0)
 have HTL1:=hI (fun (W:World)=>qfl d.f1.s W hs1)
 have HFW0:=hI (qcl d.f0 hs0)
 have HFW1:=hI (qcl d.f1 hs1)
 have HLAY:=hI (fun (f ep' sq:Nat) (hf:f=0∨f=1) (ep:Nat) (st:ByteArray) (A:Option Addr) (c:Nat) (x:List EV) (W:World) (hr:RdK qbx 2 W.heap.size W A (evA x)) (hd:(evA x).size≤200000) (hev:∀ i,i < (evA x).size→(evA x)[i]!.2.size≤1000000)=>qjy ⟨d,f,ep',sq,false⟩ ep st A c (evA x) W hok (by show d.ops≤_;omega) hf hr hd hev)
 have HN0:Hid (decide ((qal d.f0).n=d.f0.s.size)=decide ((qal d.f0).n=(d.get 0).s.size)):=rfl
 have HN1:Hid (decide ((qal d.f1).n=d.f1.s.size)=decide ((qal d.f1).n=(d.get 1).s.size)):=rfl
 unfold TellP at HTL0 HTL1
 change Hid (∀ W,Calls _ _ _ W fun e w'=>∃ v,e=.returned (.agg (qau (qal d.f0) v (decide ((qal d.f0).n=d.f0.s.size))))∧w'.ownsRow W.heap.size 56 2 v (evA (qal d.f0).evs).size (flatK qbx 2 (evA (qal d.f0).evs)).toList∧Below W.heap.size W w') at HTL0
 change Hid (∀ W,Calls _ _ _ W fun e w'=>∃ v,e=.returned (.agg (qau (qal d.f1) v (decide ((qal d.f1).n=d.f1.s.size))))∧w'.ownsRow W.heap.size 56 2 v (evA (qal d.f1).evs).size (flatK qbx 2 (evA (qal d.f1).evs)).toList∧Below W.heap.size W w') at HTL1
 generalize decide ((qal d.f0).n=d.f0.s.size)=q0 at HTL0 HN0
 generalize decide ((qal d.f1).n=d.f1.s.size)=q1 at HTL1 HN1
 generalize qal d.f0=t0 at HTL0 HN0 HFW0 HGE hcs
 generalize qal d.f1=t1 at HTL1 HN1 HFW1 HGE hcs
 have HCS:=hI hcs
 clear hcs
 generalize d.f0.s=s0 at HRD0 HTL0
 generalize d.f1.s=s1 at HRD1 HTL1
 rw [hr0]
 clear HRE HQ0 hr0 hq0 hq1 hs0 hs1 ho hok hdd hG
 obtain ⟨a,b,c,e,h,k,R,O,M,D⟩:=r0
 unfold qgg rdV qbh at HRD0 HRD1
 unfold rdV qbh
 unfold qau at HTL0 HTL1
 dsimp only at HRD0 HRD1 HTL0 HTL1 ⊢
 go_enter Tryz.func11,Tryz.ntmps11
 go_wp2_with fail
 refine (HRD0.out _).mono ?_
 rintro x w1 ⟨rfl,hb1⟩
 have HX1:Hid (w1.heap[w.heap.size]?=some (.cells #[.string a,.string b,.string c,.string e,.bool h,.bool k,.int .i64 (R:Int),.int .i64 (O:Int),.int .i64 (M:Int),.bool D] 33 (0,0))):=(hb1.block _ (by simp;omega)).trans (qbi w _ _).1
 have HY1:Hid (w1.heap[w.heap.size + 1]?=some (.cells #[.string ⟨#[]⟩,.string ⟨#[]⟩,.string ⟨#[]⟩,.string ⟨#[]⟩,.bool false,.bool false,.int .i64 0,.int .i64 0,.int .i64 0,.bool false,.int .i64 0,.int .i64 0,.int .i64 0,.bool false] 41 (0,0))):=(hb1.block _ (by simp)).trans (qbi w _ _).2
 have HB1:=hI (qad (qab (bel1 w _) _) hb1)
 clear hb1 HRD0
 obtain ⟨p0,p1,p2,p3,p4,p5,p6,p7,p8,p9⟩:=qam HX1.out
 go_wp2_with fail
 refine (HRD1.out _).mono ?_
 rintro x w2 ⟨rfl,hb2⟩
 have HB2:=hI (qad HB1.out hb2)
 have HX2:Hid (w2.heap[w.heap.size]?=some (.cells #[.string a,.string b,.string c,.string e,.bool h,.bool k,.int .i64 (R:Int),.int .i64 (O:Int),.int .i64 (M:Int),.bool D] 33 (0,0))):=(hb2.block _ (qaa HX1.out)).trans HX1.out
 have HY2:Hid (w2.heap[w.heap.size + 1]?=some (.cells #[.string ⟨#[]⟩,.string ⟨#[]⟩,.string ⟨#[]⟩,.string ⟨#[]⟩,.bool false,.bool false,.int .i64 0,.int .i64 0,.int .i64 0,.bool false,.int .i64 0,.int .i64 0,.int .i64 0,.bool false] 41 (0,0))):=(hb2.block _ (qaa HY1.out)).trans HY1.out
 clear hb2 HRD1 HX1 HY1 HB1 p0 p1 p2 p3 p4 p5 p6 p7 p8 p9
 go_wp2_with fail
 refine (HTL0.out _).mono ?_
 rintro x w3 ⟨v0,rfl,hrw0,hb3⟩
 obtain ⟨A0,c0,rfl⟩:=qcm hrw0
 have HR03:=hI hrw0
 have HB3:=hI (qad HB2.out hb3)
 have HX3:Hid (w3.heap[w.heap.size]?=some (.cells #[.string a,.string b,.string c,.string e,.bool h,.bool k,.int .i64 (R:Int),.int .i64 (O:Int),.int .i64 (M:Int),.bool D] 33 (0,0))):=(hb3.block _ (qaa HX2.out)).trans HX2.out
 have HY3:Hid (w3.heap[w.heap.size + 1]?=some (.cells #[.string ⟨#[]⟩,.string ⟨#[]⟩,.string ⟨#[]⟩,.string ⟨#[]⟩,.bool false,.bool false,.int .i64 0,.int .i64 0,.int .i64 0,.bool false,.int .i64 0,.int .i64 0,.int .i64 0,.bool false] 41 (0,0))):=(hb3.block _ (qaa HY2.out)).trans HY2.out
 have HS23:=hI hb3.size
 clear hb3 hrw0 HTL0
 go_wp2_with fail
 refine (HTL1.out _).mono ?_
 rintro x w4 ⟨v1,rfl,hrw1,hb4⟩
 obtain ⟨A1,c1,rfl⟩:=qcm hrw1
 have hz2:0 < w2.heap.size:=Nat.zero_lt_of_lt (qaa HX2.out)
 have hy2:w.heap.size + 1 < w2.heap.size:=qaa HY2.out
 have hz34:w2.heap.size≤w3.heap.size:=by
  exact HS23.out
 have HR04:=hI (qat HR03.out hb4)
 have HR14:=hI (qay hrw1 hz34)
 have HB4:=hI (qad HB3.out hb4)
 have HX4:Hid (w4.heap[w.heap.size]?=some (.cells #[.string a,.string b,.string c,.string e,.bool h,.bool k,.int .i64 (R:Int),.int .i64 (O:Int),.int .i64 (M:Int),.bool D] 33 (0,0))):=(hb4.block _ (qaa HX3.out)).trans HX3.out
 have HY4:Hid (w4.heap[w.heap.size + 1]?=some (.cells #[.string ⟨#[]⟩,.string ⟨#[]⟩,.string ⟨#[]⟩,.string ⟨#[]⟩,.bool false,.bool false,.int .i64 0,.int .i64 0,.int .i64 0,.bool false,.int .i64 0,.int .i64 0,.int .i64 0,.bool false] 41 (0,0))):=(hb4.block _ (qaa HY3.out)).trans HY3.out
 clear hb4 hrw1 HTL1
 go_upto_region 6 with (fail)
 obtain ⟨n1,hn1⟩:∃ n,n=w4.heap.size:=⟨_,rfl⟩
 rw [←hn1]
 generalize hw5:(w4.alloc (.cells #[.int .i64 (t0.ep:Int),.string t0.st,.slice A0 (evA t0.evs).size c0,.bool q0] 101)).alloc (.cells #[.int .i64 (t1.ep:Int),.string t1.st,.slice A1 (evA t1.evs).size c1,.bool q1] 101)=w5
 have hb5:Below w4.heap.size w4 w5:=by rw [←hw5];exact qab (bel1 w4 _) _
 obtain ⟨q,hq⟩:∃ q,n1 + 2=q:=⟨_,rfl⟩
 have HQN:=hI hq
 have hsz5:w5.heap.size=q:=by rw [←hw5,←hq,hn1];simp
 have HT0:Hid (w5.heap[n1]?=some (.cells #[.int .i64 (t0.ep:Int),.string t0.st,.slice A0 (evA t0.evs).size c0,.bool q0] 101 (0,0))):=by rw [←hw5,hn1];exact (qbi w4 _ _).1
 have HT1:Hid (w5.heap[n1 + 1]?=some (.cells #[.int .i64 (t1.ep:Int),.string t1.st,.slice A1 (evA t1.evs).size c1,.bool q1] 101 (0,0))):=by rw [←hw5,hn1];exact (qbi w4 _ _).2
 have HR0:=hI (qat HR04.out hb5)
 have HR1:=hI (qat HR14.out hb5)
 have HO0:Hid (∀ g,(g≤w.heap.size + 1∨n1≤g)→(Value.slice A0 (evA t0.evs).size c0).ownBlock≠some g):=fun g hg e=>by have h1:=(HR04.out.lt _ e);omega
 have HO1:Hid (∀ g,(g≤w.heap.size + 1∨n1≤g)→(Value.slice A1 (evA t1.evs).size c1).ownBlock≠some g):=fun g hg e=>by have h1:=(HR14.out.lt _ e);omega
 have hlt5:w.heap.size + 1 < n1:=by rw [hn1];exact qaa HY4.out
 have HB5:=hI (qad HB4.out hb5)
 have HX5:Hid (w5.heap[w.heap.size]?=some (.cells #[.string a,.string b,.string c,.string e,.bool h,.bool k,.int .i64 (R:Int),.int .i64 (O:Int),.int .i64 (M:Int),.bool D] 33 (0,0))):=(hb5.block _ (qaa HX4.out)).trans HX4.out
 have HY5:Hid (w5.heap[w.heap.size + 1]?=some (.cells #[.string ⟨#[]⟩,.string ⟨#[]⟩,.string ⟨#[]⟩,.string ⟨#[]⟩,.bool false,.bool false,.int .i64 0,.int .i64 0,.int .i64 0,.bool false,.int .i64 0,.int .i64 0,.int .i64 0,.bool false] 41 (0,0))):=(hb5.block _ (qaa HY4.out)).trans HY4.out
 clear hq hn1 hw5 hb5 HX4 HY4 HB4 HX3 HY3 HB3 HX2 HY2 HB2 HR03 HR04 HR14 HS23 hz34
 obtain ⟨p0,p1,p2,p3,p4,p5,p6,p7,p8,p9⟩:=qam HX5.out
 obtain ⟨y0,y1,y2,y3,y4,y5,y6,y7,y8,y9,y10,y11,y12,y13⟩:=qaf HY5.out
 obtain ⟨z0,z1,z2,z3,z4,z5,z6,z7,z8,z9,z10,z11,z12,z13⟩:=qaj HY5.out
 obtain ⟨a0,a1,a2,a3⟩:=qcf HT0.out
 obtain ⟨u0,u1,u2,u3⟩:=qcf HT1.out
 have hq1:n1 < q:=by have:=HQN.out;omega
 have hq2:n1 + 1 < q:=by have:=HQN.out;omega
 have hq3:w.heap.size < q:=by have:=HQN.out;omega
 have hq4:w.heap.size + 1 < q:=by have:=HQN.out;omega
 have hep0:=HFW0.out.2.2
 have hep1:=HFW1.out.2.2
 have hcs:=HCS.out
 by_cases h1:t0.ep=t1.ep∧0 < t0.ep
 ·have HGF:Hid (GG=qfw d 23):=by show _=_;rw [HGE.out,if_neg (by omega),if_pos h1.1]
  have e1:((t0.ep:Int) == (t1.ep:Int))=true:=by simp;omega
  have e2:decide ((0:Int) < (t0.ep:Int))=true:=decide_eq_true (by omega)
  have e2':decide (0 < t0.ep)=true:=decide_eq_true (by omega)
  have e1':(t0.ep == t1.ep)=true:=by simp;omega
  clear HGE h1 hcs
  go_wp2
  refine bodyPost_ret (v:=.tuple #[.agg #[.string a,.string b,.string c,.string e,.bool h,.bool k,.int .i64 (R:Int),.int .i64 (O:Int),.int .i64 (M:Int),.bool D,.int .i64 0,.int .i64 0,.int .i64 0,.bool false],.string ⟨#[]⟩,.slice none 0 0,.int .i64 23]) (by simp [results,Tryz.results11,go_sem,y0,y1,y2,y3,y4,y5,y6,y7,y8,y9,y10,y11,y12,y13]) rfl ?_
  exact qck HGF.out (HL.out 0 0 0) rfl (qcv _ _) (qbk HB5.out (Nat.le_succ _))
 by_cases h0:t0.ep=0∧t1.ep=0
 ·have e1:((t0.ep:Int) == (t1.ep:Int))=true:=by simp;omega
  have e1':(t0.ep == t1.ep)=true:=by simp;omega
  have e2:decide ((0:Int) < (t0.ep:Int))=false:=decide_eq_false (by omega)
  have e2':decide (0 < t0.ep)=false:=decide_eq_false (by omega)
  have e3:decide ((t0.ep:Int) < (t1.ep:Int))=false:=decide_eq_false (by omega)
  have e3':decide (t0.ep < t1.ep)=false:=decide_eq_false (by omega)
  have e4:((t0.ep:Int) == 0)=true:=by simp;omega
  have e4':(t0.ep == 0)=true:=by simp;omega
  obtain ⟨X,hX⟩:∃ X,layP ⟨d,1,0,0,false⟩ 1 first []=X:=⟨_,rfl⟩
  have HGF:Hid (GG=outG X first []):=by show _=_;rw [HGE.out,if_pos h0,hX]
  clear HGE h0 h1 hcs
  go_upto_region 13 with (fail)
  generalize hw6:(w5.alloc (.cells #[.string a,.string b,.string c,.string e,.bool h,.bool k,.int .i64 (R:Int),.int .i64 (O:Int),.int .i64 (M:Int),.bool D,.int .i64 0,.int .i64 0,.int .i64 0,.bool false] 41)).alloc (.cells #[.int .i64 (t0.ep:Int),.string t0.st,.slice A0 (evA t0.evs).size c0,.bool q0] 101)=w6
  have hb6:Below w5.heap.size w5 w6:=by rw [←hw6];exact qab (bel1 w5 _) _
  have HQ6:Hid (w6.heap[q]?=some (.cells #[.string a,.string b,.string c,.string e,.bool h,.bool k,.int .i64 (R:Int),.int .i64 (O:Int),.int .i64 (M:Int),.bool D,.int .i64 0,.int .i64 0,.int .i64 0,.bool false] 41 (0,0))):=by show _=_;rw [←hw6,←hsz5];exact (qbi w5 _ _).1
  have HT6:Hid (w6.heap[q + 1]?=some (.cells #[.int .i64 (t0.ep:Int),.string t0.st,.slice A0 (evA t0.evs).size c0,.bool q0] 101 (0,0))):=by show _=_;rw [←hw6,←hsz5];exact (qbi w5 _ _).2
  have HX6:Hid (w6.heap[w.heap.size]?=some (.cells #[.string a,.string b,.string c,.string e,.bool h,.bool k,.int .i64 (R:Int),.int .i64 (O:Int),.int .i64 (M:Int),.bool D] 33 (0,0))):=(hb6.block _ (qaa HX5.out)).trans HX5.out
  have HY6:Hid (w6.heap[w.heap.size + 1]?=some (.cells #[.string ⟨#[]⟩,.string ⟨#[]⟩,.string ⟨#[]⟩,.string ⟨#[]⟩,.bool false,.bool false,.int .i64 0,.int .i64 0,.int .i64 0,.bool false,.int .i64 0,.int .i64 0,.int .i64 0,.bool false] 41 (0,0))):=(hb6.block _ (qaa HY5.out)).trans HY5.out
  have HB6:=hI (qad HB5.out hb6)
  have hqg:w.heap.size + 1 < q:=by have:=HQN.out;omega
  clear hw6 hb6 hsz5 HX5 HY5 HT0 HT1 HB5 p0 p1 p2 p3 p4 p5 p6 p7 p8 p9 y0 y1 y2 y3 y4 y5 y6 y7 y8 y9 y10 y11 y12 y13 z0 z1 z2 z3 z4 z5 z6 z7 z8 z9 z10 z11 z12 z13 a0 a1 a2 a3 u0 u1 u2 u3
  obtain ⟨p0,p1,p2,p3,p4,p5,p6,p7,p8,p9⟩:=qam HX6.out
  obtain ⟨y0,y1,y2,y3,y4,y5,y6,y7,y8,y9,y10,y11,y12,y13⟩:=qaf HY6.out
  obtain ⟨z0,z1,z2,z3,z4,z5,z6,z7,z8,z9,z10,z11,z12,z13⟩:=qaj HY6.out
  obtain ⟨l0,l1,l2,l3,l4,l5,l6,l7,l8,l9,l10,l11,l12,l13⟩:=qaf HQ6.out
  obtain ⟨m0,m1,m2,m3,m4,m5,m6,m7,m8,m9,m10,m11,m12,m13⟩:=qaj HQ6.out
  obtain ⟨a0,a1,a2,a3⟩:=qcf HT6.out
  go_upto_region 15 with (fail)
  generalize hw7:(w6.setCell ⟨q,10,none⟩ (.int .i64 1))=w7
  have HBU:Hid (But q w6 w7):=by rw [←hw7];exact (But.refl _ _).set _ _
  have HQ7:Hid (w7.heap[q]?=some (.cells #[.string a,.string b,.string c,.string e,.bool h,.bool k,.int .i64 (R:Int),.int .i64 (O:Int),.int .i64 (M:Int),.bool D,.int .i64 1,.int .i64 0,.int .i64 0,.bool false] 41 (0,0))):=by show _=_;rw [←hw7,qae HQ6.out 10 (.int .i64 1)];simp only [List.setIfInBounds_toArray,List.set_cons_succ,List.set_cons_zero]
  have HT7:=hI (HBU.out.heap HT6.out (by omega))
  have HX7:=hI (HBU.out.heap HX6.out (by omega))
  have HY7:=hI (HBU.out.heap HY6.out (by omega))
  have HB7:Hid (Below w.heap.size w w7):=HBU.out.below HB6.out (by omega) HB6.out.size
  clear hw7 HBU HQ6 HT6 HX6 HY6 HB6 p0 p1 p2 p3 p4 p5 p6 p7 p8 p9 y0 y1 y2 y3 y4 y5 y6 y7 y8 y9 y10 y11 y12 y13 z0 z1 z2 z3 z4 z5 z6 z7 z8 z9 z10 z11 z12 z13 l0 l1 l2 l3 l4 l5 l6 l7 l8 l9 l10 l11 l12 l13 m0 m1 m2 m3 m4 m5 m6 m7 m8 m9 m10 m11 m12 m13 a0 a1 a2 a3
  obtain ⟨p0,p1,p2,p3,p4,p5,p6,p7,p8,p9⟩:=qam HX7.out
  obtain ⟨y0,y1,y2,y3,y4,y5,y6,y7,y8,y9,y10,y11,y12,y13⟩:=qaf HY7.out
  obtain ⟨z0,z1,z2,z3,z4,z5,z6,z7,z8,z9,z10,z11,z12,z13⟩:=qaj HY7.out
  obtain ⟨l0,l1,l2,l3,l4,l5,l6,l7,l8,l9,l10,l11,l12,l13⟩:=qaf HQ7.out
  obtain ⟨m0,m1,m2,m3,m4,m5,m6,m7,m8,m9,m10,m11,m12,m13⟩:=qaj HQ7.out
  obtain ⟨a0,a1,a2,a3⟩:=qcf HT7.out
  have HC:=hI (HLAY.out 1 0 0 (Or.inr rfl) 1 first none 0 [] w7 (fun h=>absurd h (Nat.lt_irrefl 0)) (by decide) (fun i hi=>absurd hi (Nat.not_lt_zero _)))
  rw [show (evA []).toList=([]:List EV) from rfl,hX,HL.out] at HC
  obtain ⟨X,cx⟩:=X
  obtain ⟨lx,hlx⟩:∃ y,rlOf X=y:=⟨_,rfl⟩
  have HXD:Hid (rlOf (noG X.d)=⟨lx.d,0,0,0,false⟩):=by show _=_;rw [←hlx];rfl
  have HXL:Hid (rlOf X=lx):=hlx
  unfold qep at HC
  dsimp only at HC
  rw [hlx] at HC
  obtain ⟨⟨a9,b9,c9,e9,h9,k9,R9,O9,M9,D9⟩,fz,pz,qz,sz⟩:=lx
  rw [qce,qce] at HC
  clear hX hlx HLAY
  go_wp2_with fail
  refine HC.out.mono ?_
  rintro x w8 ⟨rfl,hb8⟩
  have HB8:=hI (qad HB7.out hb8)
  have HQ8:Hid (w8.heap[q]?=some (.cells #[.string a,.string b,.string c,.string e,.bool h,.bool k,.int .i64 (R:Int),.int .i64 (O:Int),.int .i64 (M:Int),.bool D,.int .i64 1,.int .i64 0,.int .i64 0,.bool false] 41 (0,0))):=(hb8.block _ (qaa HQ7.out)).trans HQ7.out
  have HY8:Hid (w8.heap[w.heap.size + 1]?=some (.cells #[.string ⟨#[]⟩,.string ⟨#[]⟩,.string ⟨#[]⟩,.string ⟨#[]⟩,.bool false,.bool false,.int .i64 0,.int .i64 0,.int .i64 0,.bool false,.int .i64 0,.int .i64 0,.int .i64 0,.bool false] 41 (0,0))):=(hb8.block _ (qaa HY7.out)).trans HY7.out
  have HT8:=hI ((hb8.block _ (qaa HT7.out)).trans HT7.out)
  clear hb8 HC HX7 HY7 HT7 HQ7 HB7 p0 p1 p2 p3 p4 p5 p6 p7 p8 p9 y0 y1 y2 y3 y4 y5 y6 y7 y8 y9 y10 y11 y12 y13 z0 z1 z2 z3 z4 z5 z6 z7 z8 z9 z10 z11 z12 z13 l0 l1 l2 l3 l4 l5 l6 l7 l8 l9 l10 l11 l12 l13 m0 m1 m2 m3 m4 m5 m6 m7 m8 m9 m10 m11 m12 m13 a0 a1 a2 a3
  obtain ⟨l0,l1,l2,l3,l4,l5,l6,l7,l8,l9,l10,l11,l12,l13⟩:=qaf HQ8.out
  obtain ⟨m0,m1,m2,m3,m4,m5,m6,m7,m8,m9,m10,m11,m12,m13⟩:=qaj HQ8.out
  go_upto_region 16 with (fail)
  generalize hw9:((((((((((((((w8.setCell ⟨q,0,none⟩ (.string a9)).setCell ⟨q,1,none⟩ (.string b9)).setCell ⟨q,2,none⟩ (.string c9)).setCell ⟨q,3,none⟩ (.string e9)).setCell ⟨q,4,none⟩ (.bool h9)).setCell ⟨q,5,none⟩ (.bool k9)).setCell ⟨q,6,none⟩ (.int .i64 (R9:Int))).setCell ⟨q,7,none⟩ (.int .i64 (O9:Int))).setCell ⟨q,8,none⟩ (.int .i64 (M9:Int))).setCell ⟨q,9,none⟩ (.bool D9)).setCell ⟨q,10,none⟩ (.int .i64 (fz:Int))).setCell ⟨q,11,none⟩ (.int .i64 (pz:Int))).setCell ⟨q,12,none⟩ (.int .i64 (qz:Int))).setCell ⟨q,13,none⟩ (.bool sz))=w9
  have HBU:Hid (But q w8 w9):=by rw [←hw9];exact qid (But.refl _ _)
  have HQ9:Hid (w9.heap[q]?=some (.cells #[.string a9,.string b9,.string c9,.string e9,.bool h9,.bool k9,.int .i64 (R9:Int),.int .i64 (O9:Int),.int .i64 (M9:Int),.bool D9,.int .i64 (fz:Int),.int .i64 (pz:Int),.int .i64 (qz:Int),.bool sz] 41 (0,0))):=by rw [←hw9];exact qls HQ8.out
  have HY9:Hid (w9.heap[w.heap.size + 1]?=some (.cells #[.string ⟨#[]⟩,.string ⟨#[]⟩,.string ⟨#[]⟩,.string ⟨#[]⟩,.bool false,.bool false,.int .i64 0,.int .i64 0,.int .i64 0,.bool false,.int .i64 0,.int .i64 0,.int .i64 0,.bool false] 41 (0,0))):=HBU.out.heap HY8.out (by omega)
  have HT9:=hI (HBU.out.heap HT8.out (by omega))
  have HB9:Hid (Below w.heap.size w w9):=by rw [←hw9];exact qbk HB8.out (by omega)
  clear hw9 HBU HQ8 HY8 HT8 HB8 l0 l1 l2 l3 l4 l5 l6 l7 l8 l9 l10 l11 l12 l13 m0 m1 m2 m3 m4 m5 m6 m7 m8 m9 m10 m11 m12 m13
  obtain ⟨l0,l1,l2,l3,l4,l5,l6,l7,l8,l9,l10,l11,l12,l13⟩:=qaf HQ9.out
  obtain ⟨y0,y1,y2,y3,y4,y5,y6,y7,y8,y9,y10,y11,y12,y13⟩:=qaf HY9.out
  obtain ⟨z0,z1,z2,z3,z4,z5,z6,z7,z8,z9,z10,z11,z12,z13⟩:=qaj HY9.out
  obtain ⟨a0,a1,a2,a3⟩:=qcf HT9.out
  by_cases hc:cx=0
  ·have hn:((cx:Int) != 0)=false:=by simp;omega
   have HGO:Hid (GG=⟨X,first,[],0⟩):=by show _=_;rw [HGF.out];unfold outG;rw [if_neg (by simpa using hc)]
   clear HGF hc
   go_wp2
   refine bodyPost_ret (v:=.tuple #[.agg #[.string a9,.string b9,.string c9,.string e9,.bool h9,.bool k9,.int .i64 (R9:Int),.int .i64 (O9:Int),.int .i64 (M9:Int),.bool D9,.int .i64 (fz:Int),.int .i64 (pz:Int),.int .i64 (qz:Int),.bool sz],.string first,.slice none 0 0,.int .i64 0]) (by simp [results,Tryz.results11,go_sem,y0,y1,y2,y3,y4,y5,y6,y7,y8,y9,y10,y11,y12,y13]) rfl ?_
   exact qck HGO.out HXL.out rfl (qcv _ _) (qbk HB9.out (Nat.le_succ _))
  ·have hn:((cx:Int) != 0)=true:=by simp;omega
   have HGO:Hid (GG=⟨noG X.d,⟨#[]⟩,[],cx⟩):=by show _=_;rw [HGF.out];unfold outG;rw [if_pos hc];rfl
   clear HGF hc
   go_wp2
   refine bodyPost_ret (v:=.tuple #[.agg #[.string a9,.string b9,.string c9,.string e9,.bool h9,.bool k9,.int .i64 (R9:Int),.int .i64 (O9:Int),.int .i64 (M9:Int),.bool D9,.int .i64 0,.int .i64 0,.int .i64 0,.bool false],.string ⟨#[]⟩,.slice none 0 0,.int .i64 (cx:Int)]) (by simp [results,Tryz.results11,go_sem,y0,y1,y2,y3,y4,y5,y6,y7,y8,y9,y10,y11,y12,y13]) rfl ?_
   exact qck HGO.out HXD.out rfl (qcv _ _) (qbk HB9.out (Nat.le_succ _))
 exact absurd ⟨by omega,by omega⟩ h0
set_option maxHeartbeats 8000000 in
theorem rOpen_1 (d:DK) (first:ByteArray) (w:World) (hok:d.ok) (ho:d.ops≤999999980) (hdd:d.dead=false) (hcs:(qal d.f1).ep < (qal d.f0).ep) :
 Calls Tryz.prog 11 #[rdV (rdOf d),.string first] w (qjg (rlOf (qaw d first).l) (qaw d first).st (qaw d first).evs (qaw d first).e w):=by
 have HRE:=hI (fun (i:Int) (W:World)=>qfh (rdOf d) i W (qen hok (by omega)))
 obtain ⟨r0,hr0⟩:∃ r,rdOf d=r:=⟨_,rfl⟩
 have HL:Hid (∀ f ep sq,rlOf ⟨d,f,ep,sq,false⟩=⟨r0,f,ep,sq,false⟩):=fun f ep sq=>by rw [←hr0];rfl
 have hs0:d.f0.s.size≤1000000:=by have:=hok.fit;have:=hok.room;omega
 have hs1:d.f1.s.size≤1000000:=by have:=hok.fit;have:=hok.room;omega
 have HQ0:Hid (∀ i:Int,qgf (rdOf d) i=qcu d i):=fun i=>qfj hok i
 obtain ⟨GG,hG⟩:∃ G,qaw d first=G:=⟨_,rfl⟩
 rw [hG]
 have HGE:Hid (GG=if (qal d.f0).ep=0∧(qal d.f1).ep=0 then outG (layP ⟨d,1,0,0,false⟩ 1 first []) first [] else if (qal d.f0).ep=(qal d.f1).ep then qfw d 23 else if (qal d.f1).ep < (qal d.f0).ep then qdb d 0 (qal d.f0) else qdb d 1 (qal d.f1)):=by
  show _=_
  rw [←hG]
  unfold qaw
  rw [if_neg (by rw [hdd];simp)]
 obtain ⟨hq0,hq1⟩:=qli hdd
 have HRD0:=hI (fun W=>HRE.out 0 W)
 have HRD1:=hI (fun W=>HRE.out 1 W)
 rw [HQ0.out,hq0,hr0] at HRD0
 rw [HQ0.out,hq1,hr0] at HRD1
 have HTL0:=hI (fun (W:World)=>qfl d.f0.s W hs0)
 have HTL1:=hI (fun (W:World)=>qfl d.f1.s W hs1)
 have HFW0:=hI (qcl d.f0 hs0)
 have HFW1:=hI (qcl d.f1 hs1)
 have HLAY:=hI (fun (f ep' sq:Nat) (hf:f=0∨f=1) (ep:Nat) (st:ByteArray) (A:Option Addr) (c:Nat) (x:List EV) (W:World) (hr:RdK qbx 2 W.heap.size W A (evA x)) (hd:(evA x).size≤200000) (hev:∀ i,i < (evA x).size→(evA x)[i]!.2.size≤1000000)=>qjy ⟨d,f,ep',sq,false⟩ ep st A c (evA x) W hok (by show d.ops≤_;omega) hf hr hd hev)
 have HN0:Hid (decide ((qal d.f0).n=d.f0.s.size)=decide ((qal d.f0).n=(d.get 0).s.size)):=rfl
 have HN1:Hid (decide ((qal d.f1).n=d.f1.s.size)=decide ((qal d.f1).n=(d.get 1).s.size)):=rfl
 unfold TellP at HTL0 HTL1
 change Hid (∀ W,Calls _ _ _ W fun e w'=>∃ v,e=.returned (.agg (qau (qal d.f0) v (decide ((qal d.f0).n=d.f0.s.size))))∧w'.ownsRow W.heap.size 56 2 v (evA (qal d.f0).evs).size (flatK qbx 2 (evA (qal d.f0).evs)).toList∧Below W.heap.size W w') at HTL0
 change Hid (∀ W,Calls _ _ _ W fun e w'=>∃ v,e=.returned (.agg (qau (qal d.f1) v (decide ((qal d.f1).n=d.f1.s.size))))∧w'.ownsRow W.heap.size 56 2 v (evA (qal d.f1).evs).size (flatK qbx 2 (evA (qal d.f1).evs)).toList∧Below W.heap.size W w') at HTL1
 generalize decide ((qal d.f0).n=d.f0.s.size)=q0 at HTL0 HN0
 generalize decide ((qal d.f1).n=d.f1.s.size)=q1 at HTL1 HN1
 generalize qal d.f0=t0 at HTL0 HN0 HFW0 HGE hcs
 generalize qal d.f1=t1 at HTL1 HN1 HFW1 HGE hcs
 generalize d.f0.s=s0 at HRD0 HTL0
 generalize d.f1.s=s1 at HRD1 HTL1
 rw [hr0]
 clear HRE HQ0 hr0 hq0 hq1 hs0 hs1 ho hok hdd hG
 obtain ⟨a,b,c,e,h,k,R,O,M,D⟩:=r0
 unfold qgg rdV qbh at HRD0 HRD1
 unfold rdV qbh
 unfold qau at HTL0 HTL1
 dsimp only at HRD0 HRD1 HTL0 HTL1 ⊢
 go_enter Tryz.func11,Tryz.ntmps11
 go_wp2_with fail
 refine (HRD0.out _).mono ?_
 rintro x w1 ⟨rfl,hb1⟩
 have HX1:Hid (w1.heap[w.heap.size]?=some (.cells #[.string a,.string b,.string c,.string e,.bool h,.bool k,.int .i64 (R:Int),.int .i64 (O:Int),.int .i64 (M:Int),.bool D] 33 (0,0))):=(hb1.block _ (by simp;omega)).trans (qbi w _ _).1
 have HY1:Hid (w1.heap[w.heap.size + 1]?=some (.cells #[.string ⟨#[]⟩,.string ⟨#[]⟩,.string ⟨#[]⟩,.string ⟨#[]⟩,.bool false,.bool false,.int .i64 0,.int .i64 0,.int .i64 0,.bool false,.int .i64 0,.int .i64 0,.int .i64 0,.bool false] 41 (0,0))):=(hb1.block _ (by simp)).trans (qbi w _ _).2
 have HB1:=hI (qad (qab (bel1 w _) _) hb1)
 clear hb1 HRD0
 obtain ⟨p0,p1,p2,p3,p4,p5,p6,p7,p8,p9⟩:=qam HX1.out
 go_wp2_with fail
 refine (HRD1.out _).mono ?_
 rintro x w2 ⟨rfl,hb2⟩
 have HB2:=hI (qad HB1.out hb2)
 have HX2:Hid (w2.heap[w.heap.size]?=some (.cells #[.string a,.string b,.string c,.string e,.bool h,.bool k,.int .i64 (R:Int),.int .i64 (O:Int),.int .i64 (M:Int),.bool D] 33 (0,0))):=(hb2.block _ (qaa HX1.out)).trans HX1.out
 have HY2:Hid (w2.heap[w.heap.size + 1]?=some (.cells #[.string ⟨#[]⟩,.string ⟨#[]⟩,.string ⟨#[]⟩,.string ⟨#[]⟩,.bool false,.bool false,.int .i64 0,.int .i64 0,.int .i64 0,.bool false,.int .i64 0,.int .i64 0,.int .i64 0,.bool false] 41 (0,0))):=(hb2.block _ (qaa HY1.out)).trans HY1.out
 clear hb2 HRD1 HX1 HY1 HB1 p0 p1 p2 p3 p4 p5 p6 p7 p8 p9
 go_wp2_with fail
 refine (HTL0.out _).mono ?_
 rintro x w3 ⟨v0,rfl,hrw0,hb3⟩
 obtain ⟨A0,c0,rfl⟩:=qcm hrw0
 have HR03:=hI hrw0
 have HB3:=hI (qad HB2.out hb3)
 have HX3:Hid (w3.heap[w.heap.size]?=some (.cells #[.string a,.string b,.string c,.string e,.bool h,.bool k,.int .i64 (R:Int),.int .i64 (O:Int),.int .i64 (M:Int),.bool D] 33 (0,0))):=(hb3.block _ (qaa HX2.out)).trans HX2.out
 have HY3:Hid (w3.heap[w.heap.size + 1]?=some (.cells #[.string ⟨#[]⟩,.string ⟨#[]⟩,.string ⟨#[]⟩,.string ⟨#[]⟩,.bool false,.bool false,.int .i64 0,.int .i64 0,.int .i64 0,.bool false,.int .i64 0,.int .i64 0,.int .i64 0,.bool false] 41 (0,0))):=(hb3.block _ (qaa HY2.out)).trans HY2.out
 have HS23:=hI hb3.size
 clear hb3 hrw0 HTL0
 go_wp2_with fail
 refine (HTL1.out _).mono ?_
 rintro x w4 ⟨v1,rfl,hrw1,hb4⟩
 obtain ⟨A1,c1,rfl⟩:=qcm hrw1
 have hz2:0 < w2.heap.size:=Nat.zero_lt_of_lt (qaa HX2.out)
 have hy2:w.heap.size + 1 < w2.heap.size:=qaa HY2.out
 have hz34:w2.heap.size≤w3.heap.size:=by
  exact HS23.out
 have HR04:=hI (qat HR03.out hb4)
 have HR14:=hI (qay hrw1 hz34)
 have HB4:=hI (qad HB3.out hb4)
 have HX4:Hid (w4.heap[w.heap.size]?=some (.cells #[.string a,.string b,.string c,.string e,.bool h,.bool k,.int .i64 (R:Int),.int .i64 (O:Int),.int .i64 (M:Int),.bool D] 33 (0,0))):=(hb4.block _ (qaa HX3.out)).trans HX3.out
 have HY4:Hid (w4.heap[w.heap.size + 1]?=some (.cells #[.string ⟨#[]⟩,.string ⟨#[]⟩,.string ⟨#[]⟩,.string ⟨#[]⟩,.bool false,.bool false,.int .i64 0,.int .i64 0,.int .i64 0,.bool false,.int .i64 0,.int .i64 0,.int .i64 0,.bool false] 41 (0,0))):=(hb4.block _ (qaa HY3.out)).trans HY3.out
 clear hb4 hrw1 HTL1
 go_upto_region 6 with (fail)
 obtain ⟨n1,hn1⟩:∃ n,n=w4.heap.size:=⟨_,rfl⟩
 rw [←hn1]
 generalize hw5:(w4.alloc (.cells #[.int .i64 (t0.ep:Int),.string t0.st,.slice A0 (evA t0.evs).size c0,.bool q0] 101)).alloc (.cells #[.int .i64 (t1.ep:Int),.string t1.st,.slice A1 (evA t1.evs).size c1,.bool q1] 101)=w5
 have hb5:Below w4.heap.size w4 w5:=by rw [←hw5];exact qab (bel1 w4 _) _
 obtain ⟨q,hq⟩:∃ q,n1 + 2=q:=⟨_,rfl⟩
 have HQN:=hI hq
 have hsz5:w5.heap.size=q:=by rw [←hw5,←hq,hn1];simp
 have HT0:Hid (w5.heap[n1]?=some (.cells #[.int .i64 (t0.ep:Int),.string t0.st,.slice A0 (evA t0.evs).size c0,.bool q0] 101 (0,0))):=by rw [←hw5,hn1];exact (qbi w4 _ _).1
 have HT1:Hid (w5.heap[n1 + 1]?=some (.cells #[.int .i64 (t1.ep:Int),.string t1.st,.slice A1 (evA t1.evs).size c1,.bool q1] 101 (0,0))):=by rw [←hw5,hn1];exact (qbi w4 _ _).2
 have HR0:=hI (qat HR04.out hb5)
 have HR1:=hI (qat HR14.out hb5)
 have HO0:Hid (∀ g,(g≤w.heap.size + 1∨n1≤g)→(Value.slice A0 (evA t0.evs).size c0).ownBlock≠some g):=fun g hg e=>by have h1:=(HR04.out.lt _ e);omega
 have HO1:Hid (∀ g,(g≤w.heap.size + 1∨n1≤g)→(Value.slice A1 (evA t1.evs).size c1).ownBlock≠some g):=fun g hg e=>by have h1:=(HR14.out.lt _ e);omega
 have hlt5:w.heap.size + 1 < n1:=by rw [hn1];exact qaa HY4.out
 have HB5:=hI (qad HB4.out hb5)
 have HX5:Hid (w5.heap[w.heap.size]?=some (.cells #[.string a,.string b,.string c,.string e,.bool h,.bool k,.int .i64 (R:Int),.int .i64 (O:Int),.int .i64 (M:Int),.bool D] 33 (0,0))):=(hb5.block _ (qaa HX4.out)).trans HX4.out
 have HY5:Hid (w5.heap[w.heap.size + 1]?=some (.cells #[.string ⟨#[]⟩,.string ⟨#[]⟩,.string ⟨#[]⟩,.string ⟨#[]⟩,.bool false,.bool false,.int .i64 0,.int .i64 0,.int .i64 0,.bool false,.int .i64 0,.int .i64 0,.int .i64 0,.bool false] 41 (0,0))):=(hb5.block _ (qaa HY4.out)).trans HY4.out
 clear hq hn1 hw5 hb5 HX4 HY4 HB4 HX3 HY3 HB3 HX2 HY2 HB2 HR03 HR04 HR14 HS23 hz34
 obtain ⟨p0,p1,p2,p3,p4,p5,p6,p7,p8,p9⟩:=qam HX5.out
 obtain ⟨y0,y1,y2,y3,y4,y5,y6,y7,y8,y9,y10,y11,y12,y13⟩:=qaf HY5.out
 obtain ⟨z0,z1,z2,z3,z4,z5,z6,z7,z8,z9,z10,z11,z12,z13⟩:=qaj HY5.out
 obtain ⟨a0,a1,a2,a3⟩:=qcf HT0.out
 obtain ⟨u0,u1,u2,u3⟩:=qcf HT1.out
 have hq1:n1 < q:=by have:=HQN.out;omega
 have hq2:n1 + 1 < q:=by have:=HQN.out;omega
 have hq3:w.heap.size < q:=by have:=HQN.out;omega
 have hq4:w.heap.size + 1 < q:=by have:=HQN.out;omega
 have hep0:=HFW0.out.2.2
 have hep1:=HFW1.out.2.2
 have h0:¬ (t0.ep=0∧t1.ep=0):=by omega
 have h1:¬ (t0.ep=t1.ep∧0 < t0.ep):=by omega
 rw [if_neg h0] at HGE
 have hx1:¬ (t0.ep=t1.ep):=fun hx=>by omega
 rw [if_neg hx1] at HGE
 have e1:((t0.ep:Int) == (t1.ep:Int))=false:=by simp;omega
 have e1':(t0.ep == t1.ep)=false:=by simp;omega
 have h2:t1.ep < t0.ep:=hcs
 ·rw [if_pos h2] at HGE
  have e3:decide ((t0.ep:Int) < (t1.ep:Int))=false:=decide_eq_false (by omega)
  have e3':decide (t0.ep < t1.ep)=false:=decide_eq_false (by omega)
  have e4:((t0.ep:Int) == 0)=false:=by simp;omega
  have e4':(t0.ep == 0)=false:=by simp;omega
  go_upto_region 13 with (fail)
  generalize hw6:(w5.alloc (.cells #[.string a,.string b,.string c,.string e,.bool h,.bool k,.int .i64 (R:Int),.int .i64 (O:Int),.int .i64 (M:Int),.bool D,.int .i64 0,.int .i64 0,.int .i64 0,.bool false] 41)).alloc (.cells #[.int .i64 (t0.ep:Int),.string t0.st,.slice A0 (evA t0.evs).size c0,.bool q0] 101)=w6
  have hb6:Below w5.heap.size w5 w6:=by rw [←hw6];exact qab (bel1 w5 _) _
  have HQ6:Hid (w6.heap[q]?=some (.cells #[.string a,.string b,.string c,.string e,.bool h,.bool k,.int .i64 (R:Int),.int .i64 (O:Int),.int .i64 (M:Int),.bool D,.int .i64 0,.int .i64 0,.int .i64 0,.bool false] 41 (0,0))):=by show _=_;rw [←hw6,←hsz5];exact (qbi w5 _ _).1
  have HT6:Hid (w6.heap[q + 1]?=some (.cells #[.int .i64 (t0.ep:Int),.string t0.st,.slice A0 (evA t0.evs).size c0,.bool q0] 101 (0,0))):=by show _=_;rw [←hw6,←hsz5];exact (qbi w5 _ _).2
  have HX6:Hid (w6.heap[w.heap.size]?=some (.cells #[.string a,.string b,.string c,.string e,.bool h,.bool k,.int .i64 (R:Int),.int .i64 (O:Int),.int .i64 (M:Int),.bool D] 33 (0,0))):=(hb6.block _ (qaa HX5.out)).trans HX5.out
  have HY6:Hid (w6.heap[w.heap.size + 1]?=some (.cells #[.string ⟨#[]⟩,.string ⟨#[]⟩,.string ⟨#[]⟩,.string ⟨#[]⟩,.bool false,.bool false,.int .i64 0,.int .i64 0,.int .i64 0,.bool false,.int .i64 0,.int .i64 0,.int .i64 0,.bool false] 41 (0,0))):=(hb6.block _ (qaa HY5.out)).trans HY5.out
  have HB6:=hI (qad HB5.out hb6)
  have HRW:=hI (qat HR0.out hb6)
  have hqg:w.heap.size + 1 < q:=by have:=HQN.out;omega
  clear hw6 hb6 hsz5 HX5 HY5 HT0 HT1 HB5 p0 p1 p2 p3 p4 p5 p6 p7 p8 p9 y0 y1 y2 y3 y4 y5 y6 y7 y8 y9 y10 y11 y12 y13 z0 z1 z2 z3 z4 z5 z6 z7 z8 z9 z10 z11 z12 z13 a0 a1 a2 a3 u0 u1 u2 u3
  obtain ⟨p0,p1,p2,p3,p4,p5,p6,p7,p8,p9⟩:=qam HX6.out
  obtain ⟨y0,y1,y2,y3,y4,y5,y6,y7,y8,y9,y10,y11,y12,y13⟩:=qaf HY6.out
  obtain ⟨z0,z1,z2,z3,z4,z5,z6,z7,z8,z9,z10,z11,z12,z13⟩:=qaj HY6.out
  obtain ⟨l0,l1,l2,l3,l4,l5,l6,l7,l8,l9,l10,l11,l12,l13⟩:=qaf HQ6.out
  obtain ⟨m0,m1,m2,m3,m4,m5,m6,m7,m8,m9,m10,m11,m12,m13⟩:=qaj HQ6.out
  obtain ⟨a0,a1,a2,a3⟩:=qcf HT6.out
  go_upto_region 21 with (fail)
  generalize hw7:((w6.setCell ⟨q,11,none⟩ (.int .i64 (t0.ep:Int))).setCell ⟨q,12,none⟩ (.int .i64 ((evA t0.evs).size:Int)))=w7
  have HBU:Hid (But q w6 w7):=by rw [←hw7];exact ((But.refl _ _).set _ _).set _ _
  have HQ7:Hid (w7.heap[q]?=some (.cells #[.string a,.string b,.string c,.string e,.bool h,.bool k,.int .i64 (R:Int),.int .i64 (O:Int),.int .i64 (M:Int),.bool D,.int .i64 0,.int .i64 (t0.ep:Int),.int .i64 ((evA t0.evs).size:Int),.bool false] 41 (0,0))):=by show _=_;rw [←hw7,qae (qae HQ6.out 11 (.int .i64 (t0.ep:Int))) 12 (.int .i64 ((evA t0.evs).size:Int))];simp only [List.setIfInBounds_toArray,List.set_cons_succ,List.set_cons_zero]
  have HT7:=hI (HBU.out.heap HT6.out (by omega))
  have HX7:=hI (HBU.out.heap HX6.out (by omega))
  have HY7:=hI (HBU.out.heap HY6.out (by omega))
  have HB7:Hid (Below w.heap.size w w7):=HBU.out.below HB6.out (by omega) HB6.out.size
  have HRV:=hI (qhf HRW.out HBU.out hz2 (HO0.out _ (Or.inr (by have:=HQN.out;omega))))
  clear hw7 HBU HQ6 HT6 HX6 HY6 HB6 p0 p1 p2 p3 p4 p5 p6 p7 p8 p9 y0 y1 y2 y3 y4 y5 y6 y7 y8 y9 y10 y11 y12 y13 z0 z1 z2 z3 z4 z5 z6 z7 z8 z9 z10 z11 z12 z13 l0 l1 l2 l3 l4 l5 l6 l7 l8 l9 l10 l11 l12 l13 m0 m1 m2 m3 m4 m5 m6 m7 m8 m9 m10 m11 m12 m13 a0 a1 a2 a3
  obtain ⟨p0,p1,p2,p3,p4,p5,p6,p7,p8,p9⟩:=qam HX7.out
  obtain ⟨y0,y1,y2,y3,y4,y5,y6,y7,y8,y9,y10,y11,y12,y13⟩:=qaf HY7.out
  obtain ⟨z0,z1,z2,z3,z4,z5,z6,z7,z8,z9,z10,z11,z12,z13⟩:=qaj HY7.out
  obtain ⟨l0,l1,l2,l3,l4,l5,l6,l7,l8,l9,l10,l11,l12,l13⟩:=qaf HQ7.out
  obtain ⟨m0,m1,m2,m3,m4,m5,m6,m7,m8,m9,m10,m11,m12,m13⟩:=qaj HQ7.out
  obtain ⟨a0,a1,a2,a3⟩:=qcf HT7.out
  clear HRW
  cases q0
  rotate_left
  ·have HGF:Hid (GG=⟨⟨d,0,t0.ep,(evA t0.evs).size,false⟩,t0.st,t0.evs,0⟩):=by show _=_;rw [HGE.out,qbu];unfold qdb;rw [if_pos (of_decide_eq_true HN0.out.symm)]
   clear HGE HLAY
   go_wp2
   go_region
   go_wp2
   refine bodyPost_ret (v:=.tuple #[.agg #[.string a,.string b,.string c,.string e,.bool h,.bool k,.int .i64 (R:Int),.int .i64 (O:Int),.int .i64 (M:Int),.bool D,.int .i64 0,.int .i64 (t0.ep:Int),.int .i64 ((evA t0.evs).size:Int),.bool false],.string t0.st,.slice A0 (evA t0.evs).size c0,.int .i64 0]) (by simp [results,Tryz.results11,go_sem,y0,y1,y2,y3,y4,y5,y6,y7,y8,y9,y10,y11,y12,y13]) rfl ?_
   exact qck HGF.out (HL.out 0 t0.ep (evA t0.evs).size) rfl (qay (qjz (own14 HRV.out hz2 (HO0.out _ (Or.inl (Nat.le_refl _))))) (by omega)) (qbk HB7.out (Nat.le_succ _)).drew
  have hnc:Hid (¬ t0.n=(d.get 0).s.size):=of_decide_eq_false HN0.out.symm
  by_cases hq9:1000000≤t0.ep
  ·have HGF:Hid (GG=qfw d 9):=by show _=_;rw [HGE.out];unfold qdb;rw [if_neg hnc.out,if_pos hq9]
   have e5:((t0.ep:Int) == 1000000)=true:=by simp;omega
   have e5':(t0.ep == 1000000)=true:=by simp;omega
   clear HGE hq9 HLAY
   go_wp2
   refine bodyPost_ret (v:=.tuple #[.agg #[.string a,.string b,.string c,.string e,.bool h,.bool k,.int .i64 (R:Int),.int .i64 (O:Int),.int .i64 (M:Int),.bool D,.int .i64 0,.int .i64 0,.int .i64 0,.bool false],.string ⟨#[]⟩,.slice none 0 0,.int .i64 9]) (by simp [results,Tryz.results11,go_sem,y0,y1,y2,y3,y4,y5,y6,y7,y8,y9,y10,y11,y12,y13]) rfl ?_
   exact qck HGF.out (HL.out 0 0 0) rfl (qcv _ _) (qbk HB7.out (Nat.le_succ _))
  have e5:((t0.ep:Int) == 1000000)=false:=by simp;omega
  have e5':(t0.ep == 1000000)=false:=by simp;omega
  obtain ⟨X,hX⟩:∃ X,layP ⟨d,0,t0.ep,(evA t0.evs).size,false⟩ (t0.ep + 1) t0.st t0.evs=X:=⟨_,rfl⟩
  have HGF:Hid (GG=outG X t0.st t0.evs):=by show _=_;rw [HGE.out,←hX,qbu];unfold qdb;rw [if_neg hnc.out,if_neg hq9]
  obtain ⟨A',c',e',hrk,-⟩:=qbo HRV.out
  have hrk2:RdK qbx 2 w7.heap.size w7 A0 (evA t0.evs):=by injection e' with e1 e2 e3;rw [←e1] at hrk;exact hrk
  have HC:=hI (HLAY.out 0 t0.ep (evA t0.evs).size (Or.inl rfl) (t0.ep + 1) t0.st A0 c0 t0.evs _ hrk2 (by rw [qbu];exact HFW0.out.1) (fun j hj=>by
   refine HFW0.out.2.1 _ ?_
   rw [getElem!_pos (evA t0.evs) j hj]
   exact Array.getElem_mem_toList hj))
  rw [show (evA t0.evs).toList=t0.evs from rfl,hX,HL.out] at HC
  obtain ⟨X,cx⟩:=X
  obtain ⟨lx,hlx⟩:∃ y,rlOf X=y:=⟨_,rfl⟩
  have HXD:Hid (rlOf (noG X.d)=⟨lx.d,0,0,0,false⟩):=by show _=_;rw [←hlx];rfl
  have HXL:Hid (rlOf X=lx):=hlx
  unfold qep at HC
  dsimp only at HC
  rw [hlx] at HC
  obtain ⟨⟨a9,b9,c9,e9,h9,k9,R9,O9,M9,D9⟩,fz,pz,qz,sz⟩:=lx
  rw [qce,qce] at HC
  clear hX hlx HGE hq9 HLAY e' hrk hrk2
  go_wp2_with fail
  refine HC.out.mono ?_
  rintro x w8 ⟨rfl,hb8⟩
  have HB8:=hI (qad HB7.out hb8)
  have HQ8:Hid (w8.heap[q]?=some (.cells #[.string a,.string b,.string c,.string e,.bool h,.bool k,.int .i64 (R:Int),.int .i64 (O:Int),.int .i64 (M:Int),.bool D,.int .i64 0,.int .i64 (t0.ep:Int),.int .i64 ((evA t0.evs).size:Int),.bool false] 41 (0,0))):=(hb8.block _ (qaa HQ7.out)).trans HQ7.out
  have HY8:Hid (w8.heap[w.heap.size + 1]?=some (.cells #[.string ⟨#[]⟩,.string ⟨#[]⟩,.string ⟨#[]⟩,.string ⟨#[]⟩,.bool false,.bool false,.int .i64 0,.int .i64 0,.int .i64 0,.bool false,.int .i64 0,.int .i64 0,.int .i64 0,.bool false] 41 (0,0))):=(hb8.block _ (qaa HY7.out)).trans HY7.out
  have HT8:=hI ((hb8.block _ (qaa HT7.out)).trans HT7.out)
  have HRU:=hI (qat HRV.out hb8)
  clear hb8 HC HX7 HY7 HT7 HQ7 HB7 p0 p1 p2 p3 p4 p5 p6 p7 p8 p9 y0 y1 y2 y3 y4 y5 y6 y7 y8 y9 y10 y11 y12 y13 z0 z1 z2 z3 z4 z5 z6 z7 z8 z9 z10 z11 z12 z13 l0 l1 l2 l3 l4 l5 l6 l7 l8 l9 l10 l11 l12 l13 m0 m1 m2 m3 m4 m5 m6 m7 m8 m9 m10 m11 m12 m13 a0 a1 a2 a3
  obtain ⟨l0,l1,l2,l3,l4,l5,l6,l7,l8,l9,l10,l11,l12,l13⟩:=qaf HQ8.out
  obtain ⟨m0,m1,m2,m3,m4,m5,m6,m7,m8,m9,m10,m11,m12,m13⟩:=qaj HQ8.out
  go_upto_region 26 with (fail)
  generalize hw9:((((((((((((((w8.setCell ⟨q,0,none⟩ (.string a9)).setCell ⟨q,1,none⟩ (.string b9)).setCell ⟨q,2,none⟩ (.string c9)).setCell ⟨q,3,none⟩ (.string e9)).setCell ⟨q,4,none⟩ (.bool h9)).setCell ⟨q,5,none⟩ (.bool k9)).setCell ⟨q,6,none⟩ (.int .i64 (R9:Int))).setCell ⟨q,7,none⟩ (.int .i64 (O9:Int))).setCell ⟨q,8,none⟩ (.int .i64 (M9:Int))).setCell ⟨q,9,none⟩ (.bool D9)).setCell ⟨q,10,none⟩ (.int .i64 (fz:Int))).setCell ⟨q,11,none⟩ (.int .i64 (pz:Int))).setCell ⟨q,12,none⟩ (.int .i64 (qz:Int))).setCell ⟨q,13,none⟩ (.bool sz))=w9
  have HBU:Hid (But q w8 w9):=by rw [←hw9];exact qid (But.refl _ _)
  have HQ9:Hid (w9.heap[q]?=some (.cells #[.string a9,.string b9,.string c9,.string e9,.bool h9,.bool k9,.int .i64 (R9:Int),.int .i64 (O9:Int),.int .i64 (M9:Int),.bool D9,.int .i64 (fz:Int),.int .i64 (pz:Int),.int .i64 (qz:Int),.bool sz] 41 (0,0))):=by rw [←hw9];exact qls HQ8.out
  have HY9:Hid (w9.heap[w.heap.size + 1]?=some (.cells #[.string ⟨#[]⟩,.string ⟨#[]⟩,.string ⟨#[]⟩,.string ⟨#[]⟩,.bool false,.bool false,.int .i64 0,.int .i64 0,.int .i64 0,.bool false,.int .i64 0,.int .i64 0,.int .i64 0,.bool false] 41 (0,0))):=HBU.out.heap HY8.out (by omega)
  have HT9:=hI (HBU.out.heap HT8.out (by omega))
  have HB9:Hid (Below w.heap.size w w9):=by rw [←hw9];exact qbk HB8.out (by omega)
  have HRX:=hI (qhf HRU.out HBU.out hz2 (HO0.out _ (Or.inr (by have:=HQN.out;omega))))
  clear hw9 HBU HQ8 HY8 HT8 HB8 l0 l1 l2 l3 l4 l5 l6 l7 l8 l9 l10 l11 l12 l13 m0 m1 m2 m3 m4 m5 m6 m7 m8 m9 m10 m11 m12 m13
  obtain ⟨l0,l1,l2,l3,l4,l5,l6,l7,l8,l9,l10,l11,l12,l13⟩:=qaf HQ9.out
  obtain ⟨y0,y1,y2,y3,y4,y5,y6,y7,y8,y9,y10,y11,y12,y13⟩:=qaf HY9.out
  obtain ⟨z0,z1,z2,z3,z4,z5,z6,z7,z8,z9,z10,z11,z12,z13⟩:=qaj HY9.out
  obtain ⟨a0,a1,a2,a3⟩:=qcf HT9.out
  by_cases hc:cx=0
  ·have hn:((cx:Int) != 0)=false:=by simp;omega
   have HGO:Hid (GG=⟨X,t0.st,t0.evs,0⟩):=by show _=_;rw [HGF.out];unfold outG;rw [if_neg (by simpa using hc)]
   clear HGF hc
   go_wp2
   go_region
   go_wp2
   refine bodyPost_ret (v:=.tuple #[.agg #[.string a9,.string b9,.string c9,.string e9,.bool h9,.bool k9,.int .i64 (R9:Int),.int .i64 (O9:Int),.int .i64 (M9:Int),.bool D9,.int .i64 (fz:Int),.int .i64 (pz:Int),.int .i64 (qz:Int),.bool sz],.string t0.st,.slice A0 (evA t0.evs).size c0,.int .i64 0]) (by simp [results,Tryz.results11,go_sem,y0,y1,y2,y3,y4,y5,y6,y7,y8,y9,y10,y11,y12,y13]) rfl ?_
   exact qck HGO.out HXL.out rfl (qay (qjz (own14 HRX.out hz2 (HO0.out _ (Or.inl (Nat.le_refl _))))) (by omega)) (qbk HB9.out (Nat.le_succ _)).drew
  ·have hn:((cx:Int) != 0)=true:=by simp;omega
   have HGO:Hid (GG=⟨noG X.d,⟨#[]⟩,[],cx⟩):=by show _=_;rw [HGF.out];unfold outG;rw [if_pos hc];rfl
   clear HGF hc
   go_wp2
   refine bodyPost_ret (v:=.tuple #[.agg #[.string a9,.string b9,.string c9,.string e9,.bool h9,.bool k9,.int .i64 (R9:Int),.int .i64 (O9:Int),.int .i64 (M9:Int),.bool D9,.int .i64 0,.int .i64 0,.int .i64 0,.bool false],.string ⟨#[]⟩,.slice none 0 0,.int .i64 (cx:Int)]) (by simp [results,Tryz.results11,go_sem,y0,y1,y2,y3,y4,y5,y6,y7,y8,y9,y10,y11,y12,y13]) rfl ?_
   exact qck HGO.out HXD.out rfl (qcv _ _) (qbk HB9.out (Nat.le_succ _))
set_option maxHeartbeats 8000000 in
theorem rOpen_2 (d:DK) (first:ByteArray) (w:World) (hok:d.ok) (ho:d.ops≤999999980) (hdd:d.dead=false) (hcs:(qal d.f0).ep < (qal d.f1).ep) :
 Calls Tryz.prog 11 #[rdV (rdOf d),.string first] w (qjg (rlOf (qaw d first).l) (qaw d first).st (qaw d first).evs (qaw d first).e w):=by
 have HRE:=hI (fun (i:Int) (W:World)=>qfh (rdOf d) i W (qen hok (by omega)))
 obtain ⟨r0,hr0⟩:∃ r,rdOf d=r:=⟨_,rfl⟩
 have HL:Hid (∀ f ep sq,rlOf ⟨d,f,ep,sq,false⟩=⟨r0,f,ep,sq,false⟩):=fun f ep sq=>by rw [←hr0];rfl
 have hs0:d.f0.s.size≤1000000:=by have:=hok.fit;have:=hok.room;omega
 have hs1:d.f1.s.size≤1000000:=by have:=hok.fit;have:=hok.room;omega
 have HQ0:Hid (∀ i:Int,qgf (rdOf d) i=qcu d i):=fun i=>qfj hok i
 obtain ⟨GG,hG⟩:∃ G,qaw d first=G:=⟨_,rfl⟩
 rw [hG]
 have HGE:Hid (GG=if (qal d.f0).ep=0∧(qal d.f1).ep=0 then outG (layP ⟨d,1,0,0,false⟩ 1 first []) first [] else if (qal d.f0).ep=(qal d.f1).ep then qfw d 23 else if (qal d.f1).ep < (qal d.f0).ep then qdb d 0 (qal d.f0) else qdb d 1 (qal d.f1)):=by
  show _=_
  rw [←hG]
  unfold qaw
  rw [if_neg (by rw [hdd];simp)]
 obtain ⟨hq0,hq1⟩:=qli hdd
 have HRD0:=hI (fun W=>HRE.out 0 W)
 have HRD1:=hI (fun W=>HRE.out 1 W)
 rw [HQ0.out,hq0,hr0] at HRD0
 rw [HQ0.out,hq1,hr0] at HRD1
 have HTL0:=hI (fun (W:World)=>qfl d.f0.s W hs0)
 have HTL1:=hI (fun (W:World)=>qfl d.f1.s W hs1)
 have HFW0:=hI (qcl d.f0 hs0)
 have HFW1:=hI (qcl d.f1 hs1)
 have HLAY:=hI (fun (f ep' sq:Nat) (hf:f=0∨f=1) (ep:Nat) (st:ByteArray) (A:Option Addr) (c:Nat) (x:List EV) (W:World) (hr:RdK qbx 2 W.heap.size W A (evA x)) (hd:(evA x).size≤200000) (hev:∀ i,i < (evA x).size→(evA x)[i]!.2.size≤1000000)=>qjy ⟨d,f,ep',sq,false⟩ ep st A c (evA x) W hok (by show d.ops≤_;omega) hf hr hd hev)
 have HN0:Hid (decide ((qal d.f0).n=d.f0.s.size)=decide ((qal d.f0).n=(d.get 0).s.size)):=rfl
 have HN1:Hid (decide ((qal d.f1).n=d.f1.s.size)=decide ((qal d.f1).n=(d.get 1).s.size)):=rfl
 unfold TellP at HTL0 HTL1
 change Hid (∀ W,Calls _ _ _ W fun e w'=>∃ v,e=.returned (.agg (qau (qal d.f0) v (decide ((qal d.f0).n=d.f0.s.size))))∧w'.ownsRow W.heap.size 56 2 v (evA (qal d.f0).evs).size (flatK qbx 2 (evA (qal d.f0).evs)).toList∧Below W.heap.size W w') at HTL0
 change Hid (∀ W,Calls _ _ _ W fun e w'=>∃ v,e=.returned (.agg (qau (qal d.f1) v (decide ((qal d.f1).n=d.f1.s.size))))∧w'.ownsRow W.heap.size 56 2 v (evA (qal d.f1).evs).size (flatK qbx 2 (evA (qal d.f1).evs)).toList∧Below W.heap.size W w') at HTL1
 generalize decide ((qal d.f0).n=d.f0.s.size)=q0 at HTL0 HN0
 generalize decide ((qal d.f1).n=d.f1.s.size)=q1 at HTL1 HN1
 generalize qal d.f0=t0 at HTL0 HN0 HFW0 HGE hcs
 generalize qal d.f1=t1 at HTL1 HN1 HFW1 HGE hcs
 generalize d.f0.s=s0 at HRD0 HTL0
 generalize d.f1.s=s1 at HRD1 HTL1
 rw [hr0]
 clear HRE HQ0 hr0 hq0 hq1 hs0 hs1 ho hok hdd hG
 obtain ⟨a,b,c,e,h,k,R,O,M,D⟩:=r0
 unfold qgg rdV qbh at HRD0 HRD1
 unfold rdV qbh
 unfold qau at HTL0 HTL1
 dsimp only at HRD0 HRD1 HTL0 HTL1 ⊢
 go_enter Tryz.func11,Tryz.ntmps11
 go_wp2_with fail
 refine (HRD0.out _).mono ?_
 rintro x w1 ⟨rfl,hb1⟩
 have HX1:Hid (w1.heap[w.heap.size]?=some (.cells #[.string a,.string b,.string c,.string e,.bool h,.bool k,.int .i64 (R:Int),.int .i64 (O:Int),.int .i64 (M:Int),.bool D] 33 (0,0))):=(hb1.block _ (by simp;omega)).trans (qbi w _ _).1
 have HY1:Hid (w1.heap[w.heap.size + 1]?=some (.cells #[.string ⟨#[]⟩,.string ⟨#[]⟩,.string ⟨#[]⟩,.string ⟨#[]⟩,.bool false,.bool false,.int .i64 0,.int .i64 0,.int .i64 0,.bool false,.int .i64 0,.int .i64 0,.int .i64 0,.bool false] 41 (0,0))):=(hb1.block _ (by simp)).trans (qbi w _ _).2
 have HB1:=hI (qad (qab (bel1 w _) _) hb1)
 clear hb1 HRD0
 obtain ⟨p0,p1,p2,p3,p4,p5,p6,p7,p8,p9⟩:=qam HX1.out
 go_wp2_with fail
 refine (HRD1.out _).mono ?_
 rintro x w2 ⟨rfl,hb2⟩
 have HB2:=hI (qad HB1.out hb2)
 have HX2:Hid (w2.heap[w.heap.size]?=some (.cells #[.string a,.string b,.string c,.string e,.bool h,.bool k,.int .i64 (R:Int),.int .i64 (O:Int),.int .i64 (M:Int),.bool D] 33 (0,0))):=(hb2.block _ (qaa HX1.out)).trans HX1.out
 have HY2:Hid (w2.heap[w.heap.size + 1]?=some (.cells #[.string ⟨#[]⟩,.string ⟨#[]⟩,.string ⟨#[]⟩,.string ⟨#[]⟩,.bool false,.bool false,.int .i64 0,.int .i64 0,.int .i64 0,.bool false,.int .i64 0,.int .i64 0,.int .i64 0,.bool false] 41 (0,0))):=(hb2.block _ (qaa HY1.out)).trans HY1.out
 clear hb2 HRD1 HX1 HY1 HB1 p0 p1 p2 p3 p4 p5 p6 p7 p8 p9
 go_wp2_with fail
 refine (HTL0.out _).mono ?_
 rintro x w3 ⟨v0,rfl,hrw0,hb3⟩
 obtain ⟨A0,c0,rfl⟩:=qcm hrw0
 have HR03:=hI hrw0
 have HB3:=hI (qad HB2.out hb3)
 have HX3:Hid (w3.heap[w.heap.size]?=some (.cells #[.string a,.string b,.string c,.string e,.bool h,.bool k,.int .i64 (R:Int),.int .i64 (O:Int),.int .i64 (M:Int),.bool D] 33 (0,0))):=(hb3.block _ (qaa HX2.out)).trans HX2.out
 have HY3:Hid (w3.heap[w.heap.size + 1]?=some (.cells #[.string ⟨#[]⟩,.string ⟨#[]⟩,.string ⟨#[]⟩,.string ⟨#[]⟩,.bool false,.bool false,.int .i64 0,.int .i64 0,.int .i64 0,.bool false,.int .i64 0,.int .i64 0,.int .i64 0,.bool false] 41 (0,0))):=(hb3.block _ (qaa HY2.out)).trans HY2.out
 have HS23:=hI hb3.size
 clear hb3 hrw0 HTL0
 go_wp2_with fail
 refine (HTL1.out _).mono ?_
 rintro x w4 ⟨v1,rfl,hrw1,hb4⟩
 obtain ⟨A1,c1,rfl⟩:=qcm hrw1
 have hz2:0 < w2.heap.size:=Nat.zero_lt_of_lt (qaa HX2.out)
 have hy2:w.heap.size + 1 < w2.heap.size:=qaa HY2.out
 have hz34:w2.heap.size≤w3.heap.size:=by
  exact HS23.out
 have HR04:=hI (qat HR03.out hb4)
 have HR14:=hI (qay hrw1 hz34)
 have HB4:=hI (qad HB3.out hb4)
 have HX4:Hid (w4.heap[w.heap.size]?=some (.cells #[.string a,.string b,.string c,.string e,.bool h,.bool k,.int .i64 (R:Int),.int .i64 (O:Int),.int .i64 (M:Int),.bool D] 33 (0,0))):=(hb4.block _ (qaa HX3.out)).trans HX3.out
 have HY4:Hid (w4.heap[w.heap.size + 1]?=some (.cells #[.string ⟨#[]⟩,.string ⟨#[]⟩,.string ⟨#[]⟩,.string ⟨#[]⟩,.bool false,.bool false,.int .i64 0,.int .i64 0,.int .i64 0,.bool false,.int .i64 0,.int .i64 0,.int .i64 0,.bool false] 41 (0,0))):=(hb4.block _ (qaa HY3.out)).trans HY3.out
 clear hb4 hrw1 HTL1
 go_upto_region 6 with (fail)
 obtain ⟨n1,hn1⟩:∃ n,n=w4.heap.size:=⟨_,rfl⟩
 rw [←hn1]
 generalize hw5:(w4.alloc (.cells #[.int .i64 (t0.ep:Int),.string t0.st,.slice A0 (evA t0.evs).size c0,.bool q0] 101)).alloc (.cells #[.int .i64 (t1.ep:Int),.string t1.st,.slice A1 (evA t1.evs).size c1,.bool q1] 101)=w5
 have hb5:Below w4.heap.size w4 w5:=by rw [←hw5];exact qab (bel1 w4 _) _
 obtain ⟨q,hq⟩:∃ q,n1 + 2=q:=⟨_,rfl⟩
 have HQN:=hI hq
 have hsz5:w5.heap.size=q:=by rw [←hw5,←hq,hn1];simp
 have HT0:Hid (w5.heap[n1]?=some (.cells #[.int .i64 (t0.ep:Int),.string t0.st,.slice A0 (evA t0.evs).size c0,.bool q0] 101 (0,0))):=by rw [←hw5,hn1];exact (qbi w4 _ _).1
 have HT1:Hid (w5.heap[n1 + 1]?=some (.cells #[.int .i64 (t1.ep:Int),.string t1.st,.slice A1 (evA t1.evs).size c1,.bool q1] 101 (0,0))):=by rw [←hw5,hn1];exact (qbi w4 _ _).2
 have HR0:=hI (qat HR04.out hb5)
 have HR1:=hI (qat HR14.out hb5)
 have HO0:Hid (∀ g,(g≤w.heap.size + 1∨n1≤g)→(Value.slice A0 (evA t0.evs).size c0).ownBlock≠some g):=fun g hg e=>by have h1:=(HR04.out.lt _ e);omega
 have HO1:Hid (∀ g,(g≤w.heap.size + 1∨n1≤g)→(Value.slice A1 (evA t1.evs).size c1).ownBlock≠some g):=fun g hg e=>by have h1:=(HR14.out.lt _ e);omega
 have hlt5:w.heap.size + 1 < n1:=by rw [hn1];exact qaa HY4.out
 have HB5:=hI (qad HB4.out hb5)
 have HX5:Hid (w5.heap[w.heap.size]?=some (.cells #[.string a,.string b,.string c,.string e,.bool h,.bool k,.int .i64 (R:Int),.int .i64 (O:Int),.int .i64 (M:Int),.bool D] 33 (0,0))):=(hb5.block _ (qaa HX4.out)).trans HX4.out
 have HY5:Hid (w5.heap[w.heap.size + 1]?=some (.cells #[.string ⟨#[]⟩,.string ⟨#[]⟩,.string ⟨#[]⟩,.string ⟨#[]⟩,.bool false,.bool false,.int .i64 0,.int .i64 0,.int .i64 0,.bool false,.int .i64 0,.int .i64 0,.int .i64 0,.bool false] 41 (0,0))):=(hb5.block _ (qaa HY4.out)).trans HY4.out
 clear hq hn1 hw5 hb5 HX4 HY4 HB4 HX3 HY3 HB3 HX2 HY2 HB2 HR03 HR04 HR14 HS23 hz34
 obtain ⟨p0,p1,p2,p3,p4,p5,p6,p7,p8,p9⟩:=qam HX5.out
 obtain ⟨y0,y1,y2,y3,y4,y5,y6,y7,y8,y9,y10,y11,y12,y13⟩:=qaf HY5.out
 obtain ⟨z0,z1,z2,z3,z4,z5,z6,z7,z8,z9,z10,z11,z12,z13⟩:=qaj HY5.out
 obtain ⟨a0,a1,a2,a3⟩:=qcf HT0.out
 obtain ⟨u0,u1,u2,u3⟩:=qcf HT1.out
 have hq1:n1 < q:=by have:=HQN.out;omega
 have hq2:n1 + 1 < q:=by have:=HQN.out;omega
 have hq3:w.heap.size < q:=by have:=HQN.out;omega
 have hq4:w.heap.size + 1 < q:=by have:=HQN.out;omega
 have hep0:=HFW0.out.2.2
 have hep1:=HFW1.out.2.2
 have h0:¬ (t0.ep=0∧t1.ep=0):=by omega
 have h1:¬ (t0.ep=t1.ep∧0 < t0.ep):=by omega
 rw [if_neg h0] at HGE
 have hx1:¬ (t0.ep=t1.ep):=fun hx=>by omega
 rw [if_neg hx1] at HGE
 have e1:((t0.ep:Int) == (t1.ep:Int))=false:=by simp;omega
 have e1':(t0.ep == t1.ep)=false:=by simp;omega
 have h2:¬ t1.ep < t0.ep:=by omega
 ·rw [if_neg h2] at HGE
  have e3:decide ((t0.ep:Int) < (t1.ep:Int))=true:=decide_eq_true (by omega)
  have e3':decide (t0.ep < t1.ep)=true:=decide_eq_true (by omega)
  have e4:((t1.ep:Int) == 0)=false:=by simp;omega
  have e4':(t1.ep == 0)=false:=by simp;omega
  go_upto_region 13 with (fail)
  generalize hw6:(w5.alloc (.cells #[.string a,.string b,.string c,.string e,.bool h,.bool k,.int .i64 (R:Int),.int .i64 (O:Int),.int .i64 (M:Int),.bool D,.int .i64 1,.int .i64 0,.int .i64 0,.bool false] 41)).alloc (.cells #[.int .i64 (t1.ep:Int),.string t1.st,.slice A1 (evA t1.evs).size c1,.bool q1] 101)=w6
  have hb6:Below w5.heap.size w5 w6:=by rw [←hw6];exact qab (bel1 w5 _) _
  have HQ6:Hid (w6.heap[q]?=some (.cells #[.string a,.string b,.string c,.string e,.bool h,.bool k,.int .i64 (R:Int),.int .i64 (O:Int),.int .i64 (M:Int),.bool D,.int .i64 1,.int .i64 0,.int .i64 0,.bool false] 41 (0,0))):=by show _=_;rw [←hw6,←hsz5];exact (qbi w5 _ _).1
  have HT6:Hid (w6.heap[q + 1]?=some (.cells #[.int .i64 (t1.ep:Int),.string t1.st,.slice A1 (evA t1.evs).size c1,.bool q1] 101 (0,0))):=by show _=_;rw [←hw6,←hsz5];exact (qbi w5 _ _).2
  have HX6:Hid (w6.heap[w.heap.size]?=some (.cells #[.string a,.string b,.string c,.string e,.bool h,.bool k,.int .i64 (R:Int),.int .i64 (O:Int),.int .i64 (M:Int),.bool D] 33 (0,0))):=(hb6.block _ (qaa HX5.out)).trans HX5.out
  have HY6:Hid (w6.heap[w.heap.size + 1]?=some (.cells #[.string ⟨#[]⟩,.string ⟨#[]⟩,.string ⟨#[]⟩,.string ⟨#[]⟩,.bool false,.bool false,.int .i64 0,.int .i64 0,.int .i64 0,.bool false,.int .i64 0,.int .i64 0,.int .i64 0,.bool false] 41 (0,0))):=(hb6.block _ (qaa HY5.out)).trans HY5.out
  have HB6:=hI (qad HB5.out hb6)
  have HRW:=hI (qat HR1.out hb6)
  have hqg:w.heap.size + 1 < q:=by have:=HQN.out;omega
  clear hw6 hb6 hsz5 HX5 HY5 HT0 HT1 HB5 p0 p1 p2 p3 p4 p5 p6 p7 p8 p9 y0 y1 y2 y3 y4 y5 y6 y7 y8 y9 y10 y11 y12 y13 z0 z1 z2 z3 z4 z5 z6 z7 z8 z9 z10 z11 z12 z13 a0 a1 a2 a3 u0 u1 u2 u3
  obtain ⟨p0,p1,p2,p3,p4,p5,p6,p7,p8,p9⟩:=qam HX6.out
  obtain ⟨y0,y1,y2,y3,y4,y5,y6,y7,y8,y9,y10,y11,y12,y13⟩:=qaf HY6.out
  obtain ⟨z0,z1,z2,z3,z4,z5,z6,z7,z8,z9,z10,z11,z12,z13⟩:=qaj HY6.out
  obtain ⟨l0,l1,l2,l3,l4,l5,l6,l7,l8,l9,l10,l11,l12,l13⟩:=qaf HQ6.out
  obtain ⟨m0,m1,m2,m3,m4,m5,m6,m7,m8,m9,m10,m11,m12,m13⟩:=qaj HQ6.out
  obtain ⟨a0,a1,a2,a3⟩:=qcf HT6.out
  go_upto_region 21 with (fail)
  generalize hw7:((w6.setCell ⟨q,11,none⟩ (.int .i64 (t1.ep:Int))).setCell ⟨q,12,none⟩ (.int .i64 ((evA t1.evs).size:Int)))=w7
  have HBU:Hid (But q w6 w7):=by rw [←hw7];exact ((But.refl _ _).set _ _).set _ _
  have HQ7:Hid (w7.heap[q]?=some (.cells #[.string a,.string b,.string c,.string e,.bool h,.bool k,.int .i64 (R:Int),.int .i64 (O:Int),.int .i64 (M:Int),.bool D,.int .i64 1,.int .i64 (t1.ep:Int),.int .i64 ((evA t1.evs).size:Int),.bool false] 41 (0,0))):=by show _=_;rw [←hw7,qae (qae HQ6.out 11 (.int .i64 (t1.ep:Int))) 12 (.int .i64 ((evA t1.evs).size:Int))];simp only [List.setIfInBounds_toArray,List.set_cons_succ,List.set_cons_zero]
  have HT7:=hI (HBU.out.heap HT6.out (by omega))
  have HX7:=hI (HBU.out.heap HX6.out (by omega))
  have HY7:=hI (HBU.out.heap HY6.out (by omega))
  have HB7:Hid (Below w.heap.size w w7):=HBU.out.below HB6.out (by omega) HB6.out.size
  have HRV:=hI (qhf HRW.out HBU.out hz2 (HO1.out _ (Or.inr (by have:=HQN.out;omega))))
  clear hw7 HBU HQ6 HT6 HX6 HY6 HB6 p0 p1 p2 p3 p4 p5 p6 p7 p8 p9 y0 y1 y2 y3 y4 y5 y6 y7 y8 y9 y10 y11 y12 y13 z0 z1 z2 z3 z4 z5 z6 z7 z8 z9 z10 z11 z12 z13 l0 l1 l2 l3 l4 l5 l6 l7 l8 l9 l10 l11 l12 l13 m0 m1 m2 m3 m4 m5 m6 m7 m8 m9 m10 m11 m12 m13 a0 a1 a2 a3
  obtain ⟨p0,p1,p2,p3,p4,p5,p6,p7,p8,p9⟩:=qam HX7.out
  obtain ⟨y0,y1,y2,y3,y4,y5,y6,y7,y8,y9,y10,y11,y12,y13⟩:=qaf HY7.out
  obtain ⟨z0,z1,z2,z3,z4,z5,z6,z7,z8,z9,z10,z11,z12,z13⟩:=qaj HY7.out
  obtain ⟨l0,l1,l2,l3,l4,l5,l6,l7,l8,l9,l10,l11,l12,l13⟩:=qaf HQ7.out
  obtain ⟨m0,m1,m2,m3,m4,m5,m6,m7,m8,m9,m10,m11,m12,m13⟩:=qaj HQ7.out
  obtain ⟨a0,a1,a2,a3⟩:=qcf HT7.out
  clear HRW
  cases q1
  rotate_left
  ·have HGF:Hid (GG=⟨⟨d,1,t1.ep,(evA t1.evs).size,false⟩,t1.st,t1.evs,0⟩):=by show _=_;rw [HGE.out,qbu];unfold qdb;rw [if_pos (of_decide_eq_true HN1.out.symm)]
   clear HGE HLAY
   go_wp2
   go_region
   go_wp2
   refine bodyPost_ret (v:=.tuple #[.agg #[.string a,.string b,.string c,.string e,.bool h,.bool k,.int .i64 (R:Int),.int .i64 (O:Int),.int .i64 (M:Int),.bool D,.int .i64 1,.int .i64 (t1.ep:Int),.int .i64 ((evA t1.evs).size:Int),.bool false],.string t1.st,.slice A1 (evA t1.evs).size c1,.int .i64 0]) (by simp [results,Tryz.results11,go_sem,y0,y1,y2,y3,y4,y5,y6,y7,y8,y9,y10,y11,y12,y13]) rfl ?_
   exact qck HGF.out (HL.out 1 t1.ep (evA t1.evs).size) rfl (qay (qjz (own14 HRV.out hz2 (HO1.out _ (Or.inl (Nat.le_refl _))))) (by omega)) (qbk HB7.out (Nat.le_succ _)).drew
  have hnc:Hid (¬ t1.n=(d.get 1).s.size):=of_decide_eq_false HN1.out.symm
  by_cases hq9:1000000≤t1.ep
  ·have HGF:Hid (GG=qfw d 9):=by show _=_;rw [HGE.out];unfold qdb;rw [if_neg hnc.out,if_pos hq9]
   have e5:((t1.ep:Int) == 1000000)=true:=by simp;omega
   have e5':(t1.ep == 1000000)=true:=by simp;omega
   clear HGE hq9 HLAY
   go_wp2
   refine bodyPost_ret (v:=.tuple #[.agg #[.string a,.string b,.string c,.string e,.bool h,.bool k,.int .i64 (R:Int),.int .i64 (O:Int),.int .i64 (M:Int),.bool D,.int .i64 0,.int .i64 0,.int .i64 0,.bool false],.string ⟨#[]⟩,.slice none 0 0,.int .i64 9]) (by simp [results,Tryz.results11,go_sem,y0,y1,y2,y3,y4,y5,y6,y7,y8,y9,y10,y11,y12,y13]) rfl ?_
   exact qck HGF.out (HL.out 0 0 0) rfl (qcv _ _) (qbk HB7.out (Nat.le_succ _))
  have e5:((t1.ep:Int) == 1000000)=false:=by simp;omega
  have e5':(t1.ep == 1000000)=false:=by simp;omega
  obtain ⟨X,hX⟩:∃ X,layP ⟨d,1,t1.ep,(evA t1.evs).size,false⟩ (t1.ep + 1) t1.st t1.evs=X:=⟨_,rfl⟩
  have HGF:Hid (GG=outG X t1.st t1.evs):=by show _=_;rw [HGE.out,←hX,qbu];unfold qdb;rw [if_neg hnc.out,if_neg hq9]
  obtain ⟨A',c',e',hrk,-⟩:=qbo HRV.out
  have hrk2:RdK qbx 2 w7.heap.size w7 A1 (evA t1.evs):=by injection e' with e1 e2 e3;rw [←e1] at hrk;exact hrk
  have HC:=hI (HLAY.out 1 t1.ep (evA t1.evs).size (Or.inr rfl) (t1.ep + 1) t1.st A1 c1 t1.evs _ hrk2 (by rw [qbu];exact HFW1.out.1) (fun j hj=>by
   refine HFW1.out.2.1 _ ?_
   rw [getElem!_pos (evA t1.evs) j hj]
   exact Array.getElem_mem_toList hj))
  rw [show (evA t1.evs).toList=t1.evs from rfl,hX,HL.out] at HC
  obtain ⟨X,cx⟩:=X
  obtain ⟨lx,hlx⟩:∃ y,rlOf X=y:=⟨_,rfl⟩
  have HXD:Hid (rlOf (noG X.d)=⟨lx.d,0,0,0,false⟩):=by show _=_;rw [←hlx];rfl
  have HXL:Hid (rlOf X=lx):=hlx
  unfold qep at HC
  dsimp only at HC
  rw [hlx] at HC
  obtain ⟨⟨a9,b9,c9,e9,h9,k9,R9,O9,M9,D9⟩,fz,pz,qz,sz⟩:=lx
  rw [qce,qce] at HC
  clear hX hlx HGE hq9 HLAY e' hrk hrk2
  go_wp2_with fail
  refine HC.out.mono ?_
  rintro x w8 ⟨rfl,hb8⟩
  have HB8:=hI (qad HB7.out hb8)
  have HQ8:Hid (w8.heap[q]?=some (.cells #[.string a,.string b,.string c,.string e,.bool h,.bool k,.int .i64 (R:Int),.int .i64 (O:Int),.int .i64 (M:Int),.bool D,.int .i64 1,.int .i64 (t1.ep:Int),.int .i64 ((evA t1.evs).size:Int),.bool false] 41 (0,0))):=(hb8.block _ (qaa HQ7.out)).trans HQ7.out
  have HY8:Hid (w8.heap[w.heap.size + 1]?=some (.cells #[.string ⟨#[]⟩,.string ⟨#[]⟩,.string ⟨#[]⟩,.string ⟨#[]⟩,.bool false,.bool false,.int .i64 0,.int .i64 0,.int .i64 0,.bool false,.int .i64 0,.int .i64 0,.int .i64 0,.bool false] 41 (0,0))):=(hb8.block _ (qaa HY7.out)).trans HY7.out
  have HT8:=hI ((hb8.block _ (qaa HT7.out)).trans HT7.out)
  have HRU:=hI (qat HRV.out hb8)
  clear hb8 HC HX7 HY7 HT7 HQ7 HB7 p0 p1 p2 p3 p4 p5 p6 p7 p8 p9 y0 y1 y2 y3 y4 y5 y6 y7 y8 y9 y10 y11 y12 y13 z0 z1 z2 z3 z4 z5 z6 z7 z8 z9 z10 z11 z12 z13 l0 l1 l2 l3 l4 l5 l6 l7 l8 l9 l10 l11 l12 l13 m0 m1 m2 m3 m4 m5 m6 m7 m8 m9 m10 m11 m12 m13 a0 a1 a2 a3
  obtain ⟨l0,l1,l2,l3,l4,l5,l6,l7,l8,l9,l10,l11,l12,l13⟩:=qaf HQ8.out
  obtain ⟨m0,m1,m2,m3,m4,m5,m6,m7,m8,m9,m10,m11,m12,m13⟩:=qaj HQ8.out
  go_upto_region 26 with (fail)
  generalize hw9:((((((((((((((w8.setCell ⟨q,0,none⟩ (.string a9)).setCell ⟨q,1,none⟩ (.string b9)).setCell ⟨q,2,none⟩ (.string c9)).setCell ⟨q,3,none⟩ (.string e9)).setCell ⟨q,4,none⟩ (.bool h9)).setCell ⟨q,5,none⟩ (.bool k9)).setCell ⟨q,6,none⟩ (.int .i64 (R9:Int))).setCell ⟨q,7,none⟩ (.int .i64 (O9:Int))).setCell ⟨q,8,none⟩ (.int .i64 (M9:Int))).setCell ⟨q,9,none⟩ (.bool D9)).setCell ⟨q,10,none⟩ (.int .i64 (fz:Int))).setCell ⟨q,11,none⟩ (.int .i64 (pz:Int))).setCell ⟨q,12,none⟩ (.int .i64 (qz:Int))).setCell ⟨q,13,none⟩ (.bool sz))=w9
  have HBU:Hid (But q w8 w9):=by rw [←hw9];exact qid (But.refl _ _)
  have HQ9:Hid (w9.heap[q]?=some (.cells #[.string a9,.string b9,.string c9,.string e9,.bool h9,.bool k9,.int .i64 (R9:Int),.int .i64 (O9:Int),.int .i64 (M9:Int),.bool D9,.int .i64 (fz:Int),.int .i64 (pz:Int),.int .i64 (qz:Int),.bool sz] 41 (0,0))):=by rw [←hw9];exact qls HQ8.out
  have HY9:Hid (w9.heap[w.heap.size + 1]?=some (.cells #[.string ⟨#[]⟩,.string ⟨#[]⟩,.string ⟨#[]⟩,.string ⟨#[]⟩,.bool false,.bool false,.int .i64 0,.int .i64 0,.int .i64 0,.bool false,.int .i64 0,.int .i64 0,.int .i64 0,.bool false] 41 (0,0))):=HBU.out.heap HY8.out (by omega)
  have HT9:=hI (HBU.out.heap HT8.out (by omega))
  have HB9:Hid (Below w.heap.size w w9):=by rw [←hw9];exact qbk HB8.out (by omega)
  have HRX:=hI (qhf HRU.out HBU.out hz2 (HO1.out _ (Or.inr (by have:=HQN.out;omega))))
  clear hw9 HBU HQ8 HY8 HT8 HB8 l0 l1 l2 l3 l4 l5 l6 l7 l8 l9 l10 l11 l12 l13 m0 m1 m2 m3 m4 m5 m6 m7 m8 m9 m10 m11 m12 m13
  obtain ⟨l0,l1,l2,l3,l4,l5,l6,l7,l8,l9,l10,l11,l12,l13⟩:=qaf HQ9.out
  obtain ⟨y0,y1,y2,y3,y4,y5,y6,y7,y8,y9,y10,y11,y12,y13⟩:=qaf HY9.out
  obtain ⟨z0,z1,z2,z3,z4,z5,z6,z7,z8,z9,z10,z11,z12,z13⟩:=qaj HY9.out
  obtain ⟨a0,a1,a2,a3⟩:=qcf HT9.out
  by_cases hc:cx=0
  ·have hn:((cx:Int) != 0)=false:=by simp;omega
   have HGO:Hid (GG=⟨X,t1.st,t1.evs,0⟩):=by show _=_;rw [HGF.out];unfold outG;rw [if_neg (by simpa using hc)]
   clear HGF hc
   go_wp2
   go_region
   go_wp2
   refine bodyPost_ret (v:=.tuple #[.agg #[.string a9,.string b9,.string c9,.string e9,.bool h9,.bool k9,.int .i64 (R9:Int),.int .i64 (O9:Int),.int .i64 (M9:Int),.bool D9,.int .i64 (fz:Int),.int .i64 (pz:Int),.int .i64 (qz:Int),.bool sz],.string t1.st,.slice A1 (evA t1.evs).size c1,.int .i64 0]) (by simp [results,Tryz.results11,go_sem,y0,y1,y2,y3,y4,y5,y6,y7,y8,y9,y10,y11,y12,y13]) rfl ?_
   exact qck HGO.out HXL.out rfl (qay (qjz (own14 HRX.out hz2 (HO1.out _ (Or.inl (Nat.le_refl _))))) (by omega)) (qbk HB9.out (Nat.le_succ _)).drew
  ·have hn:((cx:Int) != 0)=true:=by simp;omega
   have HGO:Hid (GG=⟨noG X.d,⟨#[]⟩,[],cx⟩):=by show _=_;rw [HGF.out];unfold outG;rw [if_pos hc];rfl
   clear HGF hc
   go_wp2
   refine bodyPost_ret (v:=.tuple #[.agg #[.string a9,.string b9,.string c9,.string e9,.bool h9,.bool k9,.int .i64 (R9:Int),.int .i64 (O9:Int),.int .i64 (M9:Int),.bool D9,.int .i64 0,.int .i64 0,.int .i64 0,.bool false],.string ⟨#[]⟩,.slice none 0 0,.int .i64 (cx:Int)]) (by simp [results,Tryz.results11,go_sem,y0,y1,y2,y3,y4,y5,y6,y7,y8,y9,y10,y11,y12,y13]) rfl ?_
   exact qck HGO.out HXD.out rfl (qcv _ _) (qbk HB9.out (Nat.le_succ _))
set_option maxHeartbeats 8000000 in
theorem qqt (d:DK) (first:ByteArray) (w:World) (hok:d.ok) (ho:d.ops≤999999980) :
 Calls Tryz.prog 11 #[rdV (rdOf d),.string first] w (qjg (rlOf (qaw d first).l) (qaw d first).st (qaw d first).evs (qaw d first).e w):=by
 have HRE:=hI (fun (i:Int) (W:World)=>qfh (rdOf d) i W (qen hok (by omega)))
 obtain ⟨r0,hr0⟩:∃ r,rdOf d=r:=⟨_,rfl⟩
 have HL:Hid (∀ f ep sq,rlOf ⟨d,f,ep,sq,false⟩=⟨r0,f,ep,sq,false⟩):=fun f ep sq=>by rw [←hr0];rfl
 have hs0:d.f0.s.size≤1000000:=by have:=hok.fit;have:=hok.room;omega
 have hs1:d.f1.s.size≤1000000:=by have:=hok.fit;have:=hok.room;omega
 have HQ0:Hid (∀ i:Int,qgf (rdOf d) i=qcu d i):=fun i=>qfj hok i
 cases hdd:d.dead
 rotate_left
 ·have HGQ:Hid (qaw d first=qfw d 20):=by show _=_;unfold qaw;rw [if_pos hdd]
  have hq:qcu d 0=(⟨#[]⟩,20):=by unfold qcu DK.up;rw [hdd];rfl
  have HRD:=hI (fun W=>HRE.out 0 W)
  rw [HQ0.out,hq,hr0] at HRD
  rw [hr0]
  clear HRE HQ0 hr0 hq hs0 hs1 ho hok hdd
  obtain ⟨a,b,c,e,h,k,R,O,M,D⟩:=r0
  unfold qgg rdV qbh at HRD
  unfold rdV qbh
  dsimp only at HRD ⊢
  go_enter Tryz.func11,Tryz.ntmps11
  go_wp2_with fail
  refine (HRD.out _).mono ?_
  rintro x w1 ⟨rfl,hb1⟩
  have HX1:Hid (w1.heap[w.heap.size]?=some (.cells #[.string a,.string b,.string c,.string e,.bool h,.bool k,.int .i64 (R:Int),.int .i64 (O:Int),.int .i64 (M:Int),.bool D] 33 (0,0))):=(hb1.block _ (by simp;omega)).trans (qbi w _ _).1
  have HY1:Hid (w1.heap[w.heap.size + 1]?=some (.cells #[.string ⟨#[]⟩,.string ⟨#[]⟩,.string ⟨#[]⟩,.string ⟨#[]⟩,.bool false,.bool false,.int .i64 0,.int .i64 0,.int .i64 0,.bool false,.int .i64 0,.int .i64 0,.int .i64 0,.bool false] 41 (0,0))):=(hb1.block _ (by simp)).trans (qbi w _ _).2
  have HB1:=hI (qad (qab (bel1 w _) _) hb1)
  clear hb1 HRD
  obtain ⟨p0,p1,p2,p3,p4,p5,p6,p7,p8,p9⟩:=qam HX1.out
  obtain ⟨y0,y1,y2,y3,y4,y5,y6,y7,y8,y9,y10,y11,y12,y13⟩:=qaf HY1.out
  obtain ⟨z0,z1,z2,z3,z4,z5,z6,z7,z8,z9,z10,z11,z12,z13⟩:=qaj HY1.out
  go_wp2
  refine bodyPost_ret (v:=.tuple #[.agg #[.string a,.string b,.string c,.string e,.bool h,.bool k,.int .i64 (R:Int),.int .i64 (O:Int),.int .i64 (M:Int),.bool D,.int .i64 0,.int .i64 0,.int .i64 0,.bool false],.string ⟨#[]⟩,.slice none 0 0,.int .i64 20]) (by simp [results,Tryz.results11,go_sem,y0,y1,y2,y3,y4,y5,y6,y7,y8,y9,y10,y11,y12,y13]) rfl ?_
  exact qck HGQ.out (HL.out 0 0 0) rfl (qcv _ _) (qbk HB1.out (Nat.le_succ _))
 rcases Nat.lt_trichotomy (qal d.f0).ep (qal d.f1).ep with hc | hc | hc
 ·exact rOpen_2 d first w hok ho hdd hc
 ·exact rOpen_0 d first w hok ho hdd hc
 ·exact rOpen_1 d first w hok ho hdd hc
end Go.Proofs.YtjkecckndfcbjaaGreatDoor
