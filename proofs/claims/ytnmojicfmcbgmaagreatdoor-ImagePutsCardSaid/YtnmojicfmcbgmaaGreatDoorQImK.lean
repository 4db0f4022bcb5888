/- Texts that the law leans on. -/
import Derived.Test.YtnmojicfmcbgmaaGreatDoorQIoP
import Derived.Test.YtnmojicfmcbgmaaGreatDoorQImD
import Derived.Test.YtnmojicfmcbgmaaGreatDoorQStF
import Derived.Test.YtnmojicfmcbgmaaGreatDoorQIoK
import Derived.Test.YtnmojicfmcbgmaaGreatDoorQIoQ
namespace Go.Proofs.YtnmojicfmcbgmaaGreatDoor
open Go.RowKit Go.Sort Go.Lib Nb
set_option maxRecDepth 100000
structure PW (w:World) (cs:Array Value) (g:Nat) (l:List UInt8) (W:World):Prop where
 x:BoxR w cs 35 W
 h:W.heap[g]?=some (.cells #[.string (sB l),.string ⟨#[]⟩,.int .i64 0] 75 (0,0))
 g:w.heap.size < g
theorem PW.step {w W W':World} {cs:Array Value} {g:Nat} {l:List UInt8} (h:PW w cs g l W) (hb:Below W.heap.size W W'):PW w cs g l W':=⟨h.x.next hb,(hb.block _ (qaa h.h)).trans h.h,h.g⟩
theorem PW.set {w W:World} {cs:Array Value} {g:Nat} {l:List UInt8} (h:PW w cs g l W) (l':List UInt8):PW w cs g l' (((W.setCell ⟨g,0,none⟩ (.string (sB l'))).setCell ⟨g,1,none⟩ (.string ⟨#[]⟩)).setCell ⟨g,2,none⟩ (.int .i64 0)) :=
 ⟨⟨bel3 h.x.b (Nat.le_of_lt h.g) _ _ _,(qfy (by have:=h.g;omega) _ _ _).trans h.x.row⟩,qtf h.h _ _ _,h.g⟩
theorem dRowA (l:List UInt8) (A:Option Addr) (c:Nat) (z:Array (Int×Int)) (W:World) (h:RdI W.heap.size W A (z.toList.flatMap celA).toArray) (hm:∀ x ∈ z.toList,may6 x.1∧may6 x.2) (hs:z.size≤1000) (hl:l.length≤800000000) :
 Calls Tryz.prog 33 #[.agg #[.string (sB l),.string ⟨#[]⟩,.int .i64 0],.slice A (z.size * 2) c] W fun e w'=>e=.returned (.agg #[.string (sB (l ++ rowB (qbg z).flatten)),.string ⟨#[]⟩,.int .i64 0])∧Below W.heap.size W w':=by
 have hsz:=qgv z z.size (Nat.le_refl _)
 rw [List.take_of_length_le (by simp)] at hsz
 have:=dRow l A c (z.toList.flatMap celA).toArray W h (qvc hm) (by rw [List.size_toArray];omega) hl
 rw [qvb,List.size_toArray,hsz] at this
 exact this
theorem dRowR (l:List UInt8) (A:Option Addr) (c:Nat) (z:Array (Int×Int)) (W:World) (h:RdI W.heap.size W A (z.toList.flatMap celR).toArray) (hm:∀ x ∈ z.toList,may6 x.1∧may6 x.2) (hs:z.size≤1000) (hl:l.length≤800000000) :
 Calls Tryz.prog 33 #[.agg #[.string (sB l),.string ⟨#[]⟩,.int .i64 0],.slice A (z.size * 2) c] W fun e w'=>e=.returned (.agg #[.string (sB (l ++ rowB (qbg z).flatten)),.string ⟨#[]⟩,.int .i64 0])∧Below W.heap.size W w':=by
 have hsz:=qgw z z.size (Nat.le_refl _)
 rw [List.take_of_length_le (by simp)] at hsz
 have:=dRow l A c (z.toList.flatMap celR).toArray W h (qve hm) (by rw [List.size_toArray];omega) hl
 rw [qvd,List.size_toArray,hsz] at this
 exact this
def PutO (r:RP) (e:Ending):Prop:=e=.returned (.tuple #[.string (if putE r=0 then sB (qbs r) else ⟨#[]⟩),.int .i64 (putE r)])
theorem PutO.bad {r:RP} {e:Ending} {p:Int} (h:putE r=p) (hp:p≠0) (he:e=.returned (.tuple #[.string ⟨#[]⟩,.int .i64 p])):PutO r e:=by
 unfold PutO
 rw [he,if_neg (by rw [h];exact hp),h]
theorem qkd {r:RP} (h:chkW r=true):chkR r=true:=by
 unfold chkW at h
 rw [Bool.and_eq_true] at h
 exact h.1
def mkB (x:RW Int):List UInt8:=rowB (intM x.z).flatten
def qqi (x:RW (Int×Int)):List UInt8:=rowB (qbg x.z).flatten
theorem intM_nat (d:Array Int):nats d=(intM d).flatten:=by
 unfold nats intM
 rw [←List.flatMap_def]
 induction d.toList with
 | nil=>rfl
 | cons x r ih=>simp only [List.map_cons,List.flatMap_cons,ih];rfl
theorem dRowI (l:List UInt8) (x:RW Int) (W:World) (h:RdJ W x) (hm:∀ y ∈ x.z.toList,may6 y) (hs:x.z.size≤1000) (hl:l.length≤800000000) :
 Calls Tryz.prog 33 #[.agg #[.string (sB l),.string ⟨#[]⟩,.int .i64 0],.slice x.A x.z.size x.c] W fun e w'=>e=.returned (.agg #[.string (sB (l ++ mkB x)),.string ⟨#[]⟩,.int .i64 0])∧Below W.heap.size W w':=by
 have:=dRow l x.A x.c x.z W h.rd hm (by omega) hl
 rw [intM_nat] at this
 exact this
attribute [local go_sem ↓] qbc qba
attribute [local go_sem] qbt qci
set_option maxHeartbeats 16000000 in
theorem rPutI_any (r:RP) (w:World) (h:RdP w r) (hf:FewC r) :
 Calls Tryz.prog 9 #[.agg (encP r).toArray] w fun e w'=>PutO r e∧Below w.heap.size w w':=by
 have HC:Hid (∀ W,Below w.heap.size w W→Calls Tryz.prog 30 #[.agg (encP r).toArray] W fun e w'=>e=.returned (.int .i64 (repW r))∧Below W.heap.size W w'):=fun W hb=>quz r W (h.below hb) hf
 have HR:=hI h
 have HLY:=hI (@lay_of r)
 have HPE:Hid (putE r=if chkW r=true then (if qed r=true then 3 else if 18000 < (qbs r).length then 3 else 0) else 2):=rfl
 have HRW:Hid (repW r=if chkW r=true then 0 else 2):=rfl
 have HWD:Hid (chkW r=true→∀ W,Below w.heap.size w W→Calls Tryz.prog 31 #[.agg (encP r).toArray] W fun e w'=>e=.returned (.bool (qed r))∧Below W.heap.size W w'):=fun hc W hb=>rWide_any r W (h.below hb) (qjm (qkd hc)) (by have:=qjm (qkd hc);have:=qwn (qkd hc);omega) (by have:=hf.k;omega)
 have HNN:Hid (chkW r=true→(r.k.z.size:Int)=r.n∧r.d.z.size=r.k.z.size∧r.m.z.size=r.k.z.size):=fun hc=>⟨qjm (qkd hc),by have:=qjm (qkd hc);have:=qwn (qkd hc);omega,by have:=qjm (qkd hc);have:=(qhp.1 (qhb (qkd hc))).2.1;omega⟩
 obtain ⟨g1,hg1⟩:∃ g,chkW r=g:=⟨_,rfl⟩
 obtain ⟨g2,hg2⟩:∃ g,qed r=g:=⟨_,rfl⟩
 rw [hg1,hg2] at HPE
 rw [HRW.out,hg1] at HC
 rw [hg2,hg1] at HWD
 rw [hg1] at HNN
 rw [hg1,hg2] at HLY
 obtain ⟨cs,hcs⟩:∃ cs,cs=(encP r).toArray:=⟨_,rfl⟩
 have HI:cs.size=18:=by rw [hcs];rfl
 have HCS:=hI hcs
 rw [←hcs] at HC HWD
 clear h hf hg1 hg2 HRW
 have hgoal:∀ y:Array Value,cs=y→Calls Tryz.prog 9 #[.agg y] w fun e w'=>PutO r e∧Below w.heap.size w w':=by
  rintro _ rfl
  simp only [encP] at hcs
  have HX:=hI (BoxR.init w cs 35)
  have x1:=HX.out.box HI
  have x2:=HX.out.rowAt
  cases g1
  ·simp only [Bool.false_eq_true,if_false] at HC HPE
   rw [hcs]
   go_enter Tryz.func9,Tryz.ntmps9
   rw [←hcs]
   clear hcs
   go_wp2_with fail
   refine (HC.out _ HX.out.b).mono ?_
   rintro _ w1 ⟨rfl,hb1⟩
   have HX:=hI (HX.out.next hb1)
   clear hb1 x1 x2
   go_wp2
   go_ret2
   exact ⟨PutO.bad HPE.out (by decide) rfl,HX.out.b⟩
  simp only [if_true] at HC HPE
  rw [hcs]
  go_enter Tryz.func9,Tryz.ntmps9
  rw [←hcs]
  clear hcs
  go_wp2_with fail
  refine (HC.out _ HX.out.b).mono ?_
  rintro _ w1 ⟨rfl,hb1⟩
  have HX:=hI (HX.out.next hb1)
  clear hb1 x1 x2
  have x1:=HX.out.box HI
  have x2:=HX.out.rowAt
  go_wp2_with fail
  refine (HWD.out trivial _ HX.out.b).mono ?_
  rintro _ w2 ⟨rfl,hb2⟩
  have HX:=hI (HX.out.next hb2)
  clear hb2 x1 x2
  cases g2
  ·simp only [Bool.false_eq_true,if_false] at HPE
   obtain ⟨hkn,hdn,hmn⟩:=HNN.out trivial
   have HL:=hI (HLY.out trivial rfl)
   have HN:=hI (fun g W (hg:W.heap[g]?=some (.cells #[.int .i64 r.n,.int .i64 r.f,.int .i64 r.self,.int .i64 r.clock,.int .i64 r.seq,.int .i64 r.floor,.int .i64 r.ticks,.int .i64 r.lt,.int .i64 r.lid,.int .i64 r.count] 3 (0,0)))=>qqs (g:=g) (c:=10) [] (n10 r) W hg HL.out.n (by rw [qxp];decide) (by simp))
   simp only [qxp,List.nil_append,sB_nil] at HN
   have c0:=HX.out.at_ 0 (v:=.int .i64 r.n) (by rw [HCS.out];rfl)
   have c1:=HX.out.at_ 1 (v:=.int .i64 r.f) (by rw [HCS.out];rfl)
   have c2:=HX.out.at_ 2 (v:=.int .i64 r.self) (by rw [HCS.out];rfl)
   have c3:=HX.out.at_ 3 (v:=.int .i64 r.clock) (by rw [HCS.out];rfl)
   have c4:=HX.out.at_ 4 (v:=.int .i64 r.seq) (by rw [HCS.out];rfl)
   have c5:=HX.out.at_ 5 (v:=.int .i64 r.floor) (by rw [HCS.out];rfl)
   have c6:=HX.out.at_ 6 (v:=.int .i64 r.ticks) (by rw [HCS.out];rfl)
   have c13:=HX.out.at_ 13 (v:=.int .i64 r.lt) (by rw [HCS.out];rfl)
   have c14:=HX.out.at_ 14 (v:=.int .i64 r.lid) (by rw [HCS.out];rfl)
   have c15:=HX.out.at_ 15 (v:=.int .i64 r.count) (by rw [HCS.out];rfl)
   have h1l:=qfa HL.out.n
   rw [qxp] at h1l
   obtain ⟨l1,hl1⟩:∃ y,((n10 r).map Int.toNat).flatMap numB=y:=⟨_,rfl⟩
   rw [hl1] at HN h1l
   have HL1:=hI hl1
   clear hl1
   go_wp2_with fail
   refine (HN.out w2.heap.size _ (qah _ _)).mono ?_
   rintro _ w3 ⟨rfl,hb3⟩
   have HX:=hI (HX.out.next (qac (bel1 _ _) hb3))
   clear hb3 HN c0 c1 c2 c3 c4 c5 c6 c13 c14 c15
   have HP:=hI (PW.mk (w:=w) (cs:=cs) (g:=w3.heap.size) (l:=l1) (W:=w3.alloc (.cells #[.string (sB l1),.string ⟨#[]⟩,.int .i64 0] 75)) (HX.out.next (bel1 _ _)) (heap_alloc_new _ _) HX.out.lt)
   go_upto_region 6 with (fail)
   obtain ⟨wa,hwa⟩:∃ W,W=w3.alloc (.cells #[.string (sB l1),.string ⟨#[]⟩,.int .i64 0] 75):=⟨_,rfl⟩
   rw [←hwa] at HP ⊢
   obtain ⟨g,hg⟩:∃ g,g=w3.heap.size:=⟨_,rfl⟩
   rw [←hg] at HP ⊢
   clear hwa HX hg
   have hel:=qux HL.out.e HL.out.es
   have KS:Hid (∀ W,Below wa.heap.size wa W→W.cell? ⟨g,0,none⟩=some (.string (sB l1))∧W.cell? ⟨g,1,none⟩=some (.string ⟨#[]⟩)∧W.cell? ⟨g,2,none⟩=some (.int .i64 0)∧W.cell? ⟨w.heap.size,7,none⟩=some (.slice r.e.A r.e.z.size r.e.c)∧W.cell? ⟨w.heap.size,8,none⟩=some (.slice r.o.A r.o.z.size r.o.c)):=fun W hb=>by
    obtain ⟨k0,k1,k2,_⟩:=qaz (HP.out.step hb).h
    exact ⟨k0,k1,k2,(HP.out.step hb).x.at_ 7 (by rw [HCS.out];rfl),(HP.out.step hb).x.at_ 8 (by rw [HCS.out];rfl)⟩
   have HCM:Hid (∀ W,Below wa.heap.size wa W→_):=fun W hb=>rCmds_any l1 r.e.A r.e.c r.e.z W (HR.out.below (HP.out.step hb).x.b).e HL.out.e HL.out.es (by omega)
   have HAT:Hid (∀ W,Below wa.heap.size wa W→_):=fun W hb=>qqh r.o.A r.o.c r.o.z W (HR.out.below (HP.out.step hb).x.b).o.rd HL.out.o.2
   obtain ⟨l2,hl2⟩:∃ y,l1 ++ (enC.list 1000 (by decide)).b (r.e.z.toList.map entM)=y:=⟨_,rfl⟩
   have hl2s:l2.length≤1000200:=by rw [←hl2,List.length_append];omega
   rw [hl2] at HCM
   have HL2:=hI hl2
   have HLR:=hI (fun A c W h=>dRowA l2 A c r.o.z W h HL.out.o.1 HL.out.o.2 (by omega))
   obtain ⟨l3,hl3⟩:∃ y,l2 ++ rowB (qbg r.o.z).flatten=y:=⟨_,rfl⟩
   have hol:=qfd HL.out.o.1 HL.out.o.2
   have hl3s:l3.length≤1020200:=by rw [←hl3,List.length_append];omega
   rw [hl3] at HLR
   have HL3:=hI hl3
   clear hl2 hl3 hel hol h1l
   have HMT:Hid (∀ W,Below wa.heap.size wa W→PW w cs g l3 (((W.setCell ⟨g,0,none⟩ (.string (sB l3))).setCell ⟨g,1,none⟩ (.string ⟨#[]⟩)).setCell ⟨g,2,none⟩ (.int .i64 0))):=fun W hb=>(HP.out.step hb).set l3
   go_cut [4] from 43 to 50 (fun v wx=>v=.pointer (some ⟨g,0,none⟩)∧Hid (PW w cs g l3 wx))
   case first =>
    go_wp2_with fail
    refine qat (S:=fun W=>W.cell? ⟨g,0,none⟩=some (.string (sB l1))∧W.cell? ⟨g,1,none⟩=some (.string ⟨#[]⟩)∧W.cell? ⟨g,2,none⟩=some (.int .i64 0)∧W.cell? ⟨w.heap.size,7,none⟩=some (.slice r.e.A r.e.z.size r.e.c)∧W.cell? ⟨w.heap.size,8,none⟩=some (.slice r.o.A r.o.z.size r.o.c)) (by kernel_rfl) ?_
    have hS:=KS.out wa.drew (Below.refl _ _).drew
    refine tkF 43 0 rfl rfl hS ?_
    simp only [Act.put,sA,s0,s1]
    refine tkF 44 1 rfl rfl hS ?_
    simp only [Act.put,sA,s0,s1]
    refine tkF 45 2 rfl rfl hS ?_
    simp only [Act.put,sA,s0,s1]
    refine tkF 47 4 rfl rfl hS ?_
    simp only [Act.put,sA,s0,s1]
    refine tkF 48 5 rfl rfl hS ?_
    simp only [Act.put,sA,s0,s1]
    have B0:Hid (Below wa.heap.size wa wa.drew):=(Below.refl _ _).drew
    refine rdy1 3 rfl (fun K hK=>?_)
    go_simp
    refine (HCM.out _ B0.out).mono ?_
    rintro _ w2 ⟨rfl,hb2⟩
    have B2:=hI (qac B0.out hb2)
    clear hb2
    refine hK.out _ _ (KS.out _ B2.out) (fun _=>?_)
    clear hK K
    refine rdy1 6 rfl (fun K hK=>?_)
    go_simp
    refine (HAT.out _ B2.out).mono ?_
    rintro _ w3 ⟨A3,c3,rfl,hrd3,hb3⟩
    have B3:=hI (qac B2.out hb3)
    have HRP3:=hI hrd3
    clear hrd3
    clear hb3
    refine hK.out _ _ (KS.out _ B3.out) (fun _=>?_)
    clear hK K
    refine rdy1 7 rfl (fun K hK=>?_)
    go_simp
    refine (HLR.out A3 c3 _ HRP3.out).mono ?_
    rintro _ w4 ⟨rfl,hb4⟩
    have B4:=hI (qac B3.out hb4)
    clear hb4
    refine hK.out _ _ (KS.out _ B4.out) (fun _=>?_)
    clear hK K
    have HP6:=hI (HP.out.step B4.out)
    obtain ⟨o0,o1,o2,g0,g1,g2⟩:=qaz HP6.out.h
    have hgl:=qaa HP6.out.h
    refine rdyL 8 rfl (fun K hK=>?_)
    go_simp
    refine hK.out _ _ ?_
    clear hK K o0 o1 o2 g0 g1 g2
    refine qas (by kernel_rfl) ?_ _
    go_wp2
    go_meet
    exact ⟨rfl,hI (HMT.out _ B4.out)⟩
   obtain ⟨rfl,HP⟩:=hcut
   have HKN:=hI hkn
   have HDN:=hI hdn
   have HMN:=hI hmn
   clear hkn hdn hmn KS HCM HAT HLR HMT hl2s
   have HK1:=hI (qdx (z:=r.k.z) (f:=knB) (fun x hx=>qot (HL.out.h.k x hx)))
   go_wp2_with fail
   go_loopw [5] (fun i W=>∃ k:Nat,i=.int .i64 (k:Int)∧k≤r.k.z.size∧Hid (PW w cs g (l3 ++ (r.k.z.toList.take k).flatMap knB) W)) (fun i _=>r.k.z.size - (intOf i).toNat)
   case atStart=>exact ⟨0,rfl,Nat.zero_le _,by simpa using HP⟩
   case round =>
    obtain ⟨k,rfl,hk,HP⟩:=hrel
    have c0:=HP.out.x.at_ 0 (v:=.int .i64 r.n) (by rw [HCS.out];rfl)
    have c9:=HP.out.x.at_ 9 (v:=.slice r.k.A r.k.z.size r.k.c) (by rw [HCS.out];rfl)
    have hkb:k≤20:=by have:=HL.out.h.kn;omega
    by_cases hlt:k < r.k.z.size
    ·have kn:(k:Int) < r.n:=by have:=HKN.out;omega
     have kz:(k:Int) < (r.k.z.size:Int):=by omega
     obtain ⟨b,off,hA,hbl,f⟩:=(HR.out.below HP.out.x.b).k.rd.at_ (i:=k) hlt
     rw [hA] at c9
     have hmem:r.k.z[k]! ∈ r.k.z.toList:=by rw [getElem!_pos r.k.z k hlt];simp
     have HS:=hI (qbi r.k.z knB hlt)
     have HKB:=hI (HL.out.h.k _ hmem)
     have HRK:=hI (fun W (hb:Below w.heap.size w W)=>(HR.out.below hb).kk k hlt)
     have hlk:=HK1.out k hk
     have hk20:=HL.out.h.kn
     obtain ⟨x,hx⟩:∃ x,r.k.z[k]! = x:=⟨_,rfl⟩
     rw [hx] at f HS HKB HRK
     have e0:=f 0 (by omega)
     have e1:=f 1 (by omega)
     have e2:=f 2 (by omega)
     clear hx f hmem
     simp only [Nat.add_zero,qcs,List.getElem!_cons_zero,List.getElem!_cons_succ] at e0 e1 e2
     obtain ⟨la,hla⟩:∃ y,l3 ++ (r.k.z.toList.take k).flatMap knB=y:=⟨_,rfl⟩
     have hlas:la.length≤2100000:=by
      have:k * 50000≤20 * 50000:=Nat.mul_le_mul_right _ (by omega)
      rw [←hla,List.length_append];omega
     rw [hla] at HP
     have HLA:=hI hla
     clear hla hlk hk20
     go_upto_region 11 with (fail)
     obtain ⟨wa,hwa⟩:∃ W,W=wr.alloc (.cells #[.int .i64 x.base,.slice x.r.A x.r.z.size x.r.c,.slice x.a.A x.a.z.size x.a.c] 81):=⟨_,rfl⟩
     have HPa:Hid (PW w cs g la wa):=by show PW _ _ _ _ _;rw [hwa];exact HP.out.step (bel1 _ _)
     have KE:Hid (wa.heap[wr.heap.size]?=some (.cells #[.int .i64 x.base,.slice x.r.A x.r.z.size x.r.c,.slice x.a.A x.a.z.size x.a.c] 81 (0,0))):=by show _=_;rw [hwa];exact heap_alloc_new _ _
     rw [←hwa]
     obtain ⟨q,hq⟩:∃ q,q=wr.heap.size:=⟨_,rfl⟩
     rw [←hq] at KE ⊢
     clear hwa hq c0 c9 e0 e1 e2 hbl HP
     have KS:Hid (∀ W,Below wa.heap.size wa W→W.cell? ⟨g,0,none⟩=some (.string (sB la))∧W.cell? ⟨g,1,none⟩=some (.string ⟨#[]⟩)∧W.cell? ⟨g,2,none⟩=some (.int .i64 0)∧W.cell? ⟨q,0,none⟩=some (.int .i64 x.base)∧W.cell? ⟨q,1,none⟩=some (.slice x.r.A x.r.z.size x.r.c)∧W.cell? ⟨q,2,none⟩=some (.slice x.a.A x.a.z.size x.a.c)):=fun W hb=>by
      obtain ⟨k0,k1,k2,_⟩:=qaz (HPa.out.step hb).h
      have k3:=(hb.block _ (qaa KE.out)).trans KE.out
      exact ⟨k0,k1,k2,by rw [qab k3];rfl,by rw [qab k3];rfl,by rw [qab k3];rfl⟩
     have HN1:=hI (fun p W (hg:W.heap[p]?=some (.cells #[.int .i64 x.base] 3 (0,0)))=>qqs (g:=p) (c:=1) la [x.base] W hg (by intro y hy;simp at hy;rw [hy];exact HKB.out.1) (by simp) (by omega))
     have hnl:(([x.base].map Int.toNat).flatMap numB).length≤9:=by
      have:=qfa (l:=[x.base]) (by intro y hy;simp at hy;rw [hy];exact HKB.out.1)
      simpa using this
     obtain ⟨lb,hlb⟩:∃ y,la ++ ([x.base].map Int.toNat).flatMap numB=y:=⟨_,rfl⟩
     have hlbs:lb.length≤2100100:=by rw [←hlb,List.length_append];omega
     rw [hlb] at HN1
     simp only [List.length_cons,List.length_nil,Nat.zero_add] at HN1
     have HLB:=hI hlb
     have HSP:Hid (∀ W,Below wa.heap.size wa W→_):=fun W hb=>qnc x.r.A x.r.c x.r.z W (HRK.out W (HPa.out.step hb).x.b).r.rd HKB.out.2.1.2
     have HAT:Hid (∀ W,Below wa.heap.size wa W→_):=fun W hb=>qqh x.a.A x.a.c x.a.z W (HRK.out W (HPa.out.step hb).x.b).a.rd HKB.out.2.2.2
     have HR1:=hI (fun A c W h=>dRowR lb A c x.r.z W h HKB.out.2.1.1 HKB.out.2.1.2 (by omega))
     have hrl:=qfd HKB.out.2.1.1 HKB.out.2.1.2
     obtain ⟨lc,hlc⟩:∃ y,lb ++ rowB (qbg x.r.z).flatten=y:=⟨_,rfl⟩
     have hlcs:lc.length≤2200100:=by rw [←hlc,List.length_append];omega
     rw [hlc] at HR1
     have HLC:=hI hlc
     have HR2:=hI (fun A c W h=>dRowA lc A c x.a.z W h HKB.out.2.2.1 HKB.out.2.2.2 (by omega))
     obtain ⟨ld,hld⟩:∃ y,lc ++ rowB (qbg x.a.z).flatten=y:=⟨_,rfl⟩
     rw [hld] at HR2
     have HLD:Hid (l3 ++ (r.k.z.toList.take (k + 1)).flatMap knB=ld):=by
      show _=_
      rw [HS.out,←List.append_assoc,HLA.out,←hld,←hlc,←hlb]
      unfold knB
      simp
     clear hlb hlc hld hnl hrl HS
     have HMT:Hid (∀ W,Below wa.heap.size wa W→PW w cs g ld (((W.setCell ⟨g,0,none⟩ (.string (sB ld))).setCell ⟨g,1,none⟩ (.string ⟨#[]⟩)).setCell ⟨g,2,none⟩ (.int .i64 0))):=fun W hb=>(HPa.out.step hb).set ld
     go_wp2_with fail
     refine qat (S:=fun W=>W.cell? ⟨g,0,none⟩=some (.string (sB la))∧W.cell? ⟨g,1,none⟩=some (.string ⟨#[]⟩)∧W.cell? ⟨g,2,none⟩=some (.int .i64 0)∧W.cell? ⟨q,0,none⟩=some (.int .i64 x.base)∧W.cell? ⟨q,1,none⟩=some (.slice x.r.A x.r.z.size x.r.c)∧W.cell? ⟨q,2,none⟩=some (.slice x.a.A x.a.z.size x.a.c)) (by kernel_rfl) ?_
     have hS:=KS.out wa.drew (Below.refl _ _).drew
     refine tkF 62 0 rfl rfl hS ?_
     simp only [Act.put,sA,s0,s1]
     refine tkF 63 1 rfl rfl hS ?_
     simp only [Act.put,sA,s0,s1]
     refine tkF 64 2 rfl rfl hS ?_
     simp only [Act.put,sA,s0,s1]
     refine tkF 67 5 rfl rfl hS ?_
     simp only [Act.put,sA,s0,s1]
     refine tkF 68 6 rfl rfl hS ?_
     simp only [Act.put,sA,s0,s1]
     refine tkF 71 9 rfl rfl hS ?_
     simp only [Act.put,sA,s0,s1]
     refine tkF 72 10 rfl rfl hS ?_
     simp only [Act.put,sA,s0,s1]
     have B0:Hid (Below wa.heap.size wa wa.drew):=(Below.refl _ _).drew
     refine rdy1 3 rfl (fun K hK=>?_)
     go_simp
     have B5:=hI (qad B0.out (.cells #[.int .i64 x.base] 3))
     have hb5:=bel1 wa.drew (.cells #[.int .i64 x.base] 3)
     have HG5:=hI (qah wa.drew (.cells #[.int .i64 x.base] 3))
     clear hb5
     refine hK.out _ _ (KS.out _ B5.out) (fun _=>?_)
     clear hK K
     refine rdy1 4 rfl (fun K hK=>?_)
     go_simp
     refine (HN1.out _ _ HG5.out).mono ?_
     rintro _ w6 ⟨rfl,hb6⟩
     have B6:=hI (qac B5.out hb6)
     clear hb6
     refine hK.out _ _ (KS.out _ B6.out) (fun _=>?_)
     clear hK K
     refine rdy1 7 rfl (fun K hK=>?_)
     go_simp
     refine (HSP.out _ B6.out).mono ?_
     rintro _ w7 ⟨A7,c7,rfl,hrd7,hb7⟩
     have B7:=hI (qac B6.out hb7)
     have HRP7:=hI hrd7
     clear hrd7
     clear hb7
     refine hK.out _ _ (KS.out _ B7.out) (fun _=>?_)
     clear hK K
     refine rdy1 8 rfl (fun K hK=>?_)
     go_simp
     refine (HR1.out A7 c7 _ HRP7.out).mono ?_
     rintro _ w8 ⟨rfl,hb8⟩
     have B8:=hI (qac B7.out hb8)
     clear hb8
     refine hK.out _ _ (KS.out _ B8.out) (fun _=>?_)
     clear hK K
     refine rdy1 11 rfl (fun K hK=>?_)
     go_simp
     refine (HAT.out _ B8.out).mono ?_
     rintro _ w9 ⟨A9,c9,rfl,hrd9,hb9⟩
     have B9:=hI (qac B8.out hb9)
     have HRT9:=hI hrd9
     clear hrd9
     clear hb9
     refine hK.out _ _ (KS.out _ B9.out) (fun _=>?_)
     clear hK K
     refine rdy1 12 rfl (fun K hK=>?_)
     go_simp
     refine (HR2.out A9 c9 _ HRT9.out).mono ?_
     rintro _ w10 ⟨rfl,hb10⟩
     have B10:=hI (qac B9.out hb10)
     clear hb10
     refine hK.out _ _ (KS.out _ B10.out) (fun _=>?_)
     clear hK K
     have HP6:=hI (HPa.out.step B10.out)
     obtain ⟨o0,o1,o2,g0,g1,g2⟩:=qaz HP6.out.h
     have hgl:=qaa HP6.out.h
     refine rdyL 13 rfl (fun K hK=>?_)
     go_simp
     refine hK.out _ _ ?_
     clear hK K o0 o1 o2 g0 g1 g2
     refine qas (by kernel_rfl) ?_ _
     go_wp2
     go_roundw
     case rel=>exact ⟨k + 1,by go_num,by omega,by rw [HLD.out];exact hI (HMT.out _ B10.out)⟩
     case measure=>simp [intOf];omega
    have kn:decide ((k:Int) < r.n)=false:=decide_eq_false (by have:=HKN.out;omega)
    have hk2:k=r.k.z.size:=by omega
    have HQ:Hid (PW w cs g (l3 ++ r.k.z.toList.flatMap knB) wr):=by
     have:=HP.out
     rw [hk2,List.take_of_length_le (by simp)] at this
     exact this
    clear hk2 c9 hlt hk HP
    obtain ⟨l4,hl4⟩:∃ y,l3 ++ r.k.z.toList.flatMap knB=y:=⟨_,rfl⟩
    have hl4s:l4.length≤2100000:=by
     have h1:=HK1.out r.k.z.size (Nat.le_refl _)
     rw [List.take_of_length_le (by simp)] at h1
     have:=HL.out.h.kn
     have:r.k.z.size * 50000≤20 * 50000:=Nat.mul_le_mul_right _ HL.out.h.kn
     rw [←hl4,List.length_append];omega
    rw [hl4] at HQ
    have HL4:=hI hl4
    clear hl4 hl3s HK1
    have HP:=HQ
    clear HQ
    go_wp2_with fail
    clear kn hkb c0
    have HK1:=hI (qdx (z:=r.m.z) (f:=mkB) (C:=10000) (fun x hx=>qhf (HL.out.h.m x hx).1 (HL.out.h.m x hx).2))
    go_loopw [7] (fun i W=>∃ k:Nat,i=.int .i64 (k:Int)∧k≤r.m.z.size∧Hid (PW w cs g (l4 ++ (r.m.z.toList.take k).flatMap mkB) W)) (fun i _=>r.m.z.size - (intOf i).toNat)
    case atStart=>exact ⟨0,rfl,Nat.zero_le _,by simpa using HP⟩
    case round =>
     obtain ⟨k,rfl,hk,HP⟩:=hrel
     have c0:=HP.out.x.at_ 0 (v:=.int .i64 r.n) (by rw [HCS.out];rfl)
     have cF:=HP.out.x.at_ 10 (v:=.slice r.m.A r.m.z.size r.m.c) (by rw [HCS.out];rfl)
     have hkb:k≤20:=by have:=HL.out.h.mn;omega
     by_cases hlt:k < r.m.z.size
     ·have kn:(k:Int) < r.n:=by have:=HKN.out;have:=HMN.out;omega
      have kz:(k:Int) < (r.m.z.size:Int):=by omega
      obtain ⟨b,off,hA,hbl,f⟩:=(HR.out.below HP.out.x.b).m.rd.at_ (i:=k) hlt
      rw [hA] at cF
      have hmem:r.m.z[k]! ∈ r.m.z.toList:=by rw [getElem!_pos r.m.z k hlt];simp
      have HS:=hI (qbi r.m.z mkB hlt)
      have HKB:=hI (HL.out.h.m _ hmem)
      have HRK:=hI (fun W (hb:Below w.heap.size w W)=>(HR.out.below hb).mm k hlt)
      have hlk:=HK1.out k hk
      obtain ⟨x,hx⟩:∃ x,r.m.z[k]! = x:=⟨_,rfl⟩
      rw [hx] at f HS HKB HRK
      have e0:=f 0 (by omega)
      clear hx f hmem
      simp only [Nat.add_zero,Nat.mul_one,encW,RW.v,List.getElem!_cons_zero] at e0
      obtain ⟨la,hla⟩:∃ y,l4 ++ (r.m.z.toList.take k).flatMap mkB=y:=⟨_,rfl⟩
      have hlas:la.length≤2400000:=by
       have:k * 10000≤20 * 10000:=Nat.mul_le_mul_right _ hkb
       rw [←hla,List.length_append];omega
      rw [hla] at HP
      have HLA:=hI hla
      clear hla hlk
      have HPa:=HP
      have KS:Hid (∀ W,Below wr.heap.size wr W→W.cell? ⟨g,0,none⟩=some (.string (sB la))∧W.cell? ⟨g,1,none⟩=some (.string ⟨#[]⟩)∧W.cell? ⟨g,2,none⟩=some (.int .i64 0)∧W.cell? ⟨w.heap.size,10,none⟩=some (.slice (some ⟨b,off,none⟩) r.m.z.size r.m.c)∧W.cell? ⟨b,off + k,none⟩=some (.slice x.A x.z.size x.c)):=fun W hb=>by
       obtain ⟨k0,k1,k2,_⟩:=qaz (HPa.out.step hb).h
       exact ⟨k0,k1,k2,(hb.cell (qap cF)).trans cF,(hb.cell (qap e0)).trans e0⟩
      have HRW:Hid (∀ W,Below wr.heap.size wr W→_):=fun W hb=>dRowI la x W (HRK.out W (HPa.out.step hb).x.b) HKB.out.1 HKB.out.2 (by omega)
      obtain ⟨ld,hld⟩:∃ y,la ++ mkB x=y:=⟨_,rfl⟩
      rw [hld] at HRW
      have HLD:Hid (l4 ++ (r.m.z.toList.take (k + 1)).flatMap mkB=ld):=by
       show _=_
       rw [HS.out,←List.append_assoc,HLA.out,hld]
      clear hld HS
      have HMT:Hid (∀ W,Below wr.heap.size wr W→PW w cs g ld (((W.setCell ⟨g,0,none⟩ (.string (sB ld))).setCell ⟨g,1,none⟩ (.string ⟨#[]⟩)).setCell ⟨g,2,none⟩ (.int .i64 0))):=fun W hb=>(HPa.out.step hb).set ld
      go_wp2_with fail
      refine qat (S:=fun W=>W.cell? ⟨g,0,none⟩=some (.string (sB la))∧W.cell? ⟨g,1,none⟩=some (.string ⟨#[]⟩)∧W.cell? ⟨g,2,none⟩=some (.int .i64 0)∧W.cell? ⟨w.heap.size,10,none⟩=some (.slice (some ⟨b,off,none⟩) r.m.z.size r.m.c)∧W.cell? ⟨b,off + k,none⟩=some (.slice x.A x.z.size x.c)) (by kernel_rfl) ?_
      have hS:=KS.out wr.drew (Below.refl _ _).drew
      refine tkF 81 0 rfl rfl hS ?_
      simp only [Act.put,sA,s0,s1]
      refine tkF 82 1 rfl rfl hS ?_
      simp only [Act.put,sA,s0,s1]
      refine tkF 83 2 rfl rfl hS ?_
      simp only [Act.put,sA,s0,s1]
      refine tkF 84 3 rfl rfl hS ?_
      simp only [Act.put,sA,s0,s1]
      refine tkF 85 4 rfl rfl hS ?_
      simp only [Act.put,sA,s0,s1]
      refine tkF 86 5 rfl rfl hS ?_
      simp only [Act.put,sA,s0,s1]
      have B0:Hid (Below wr.heap.size wr wr.drew):=(Below.refl _ _).drew
      refine rdy1 6 rfl (fun K hK=>?_)
      go_simp
      refine (HRW.out _ B0.out).mono ?_
      rintro _ w1 ⟨rfl,hb1⟩
      have B1:=hI (qac B0.out hb1)
      clear hb1
      refine hK.out _ _ (KS.out _ B1.out) (fun _=>?_)
      clear hK K
      have HP6:=hI (HPa.out.step B1.out)
      obtain ⟨o0,o1,o2,g0,g1,g2⟩:=qaz HP6.out.h
      have hgl:=qaa HP6.out.h
      refine rdyL 7 rfl (fun K hK=>?_)
      go_simp
      refine hK.out _ _ ?_
      clear hK K o0 o1 o2 g0 g1 g2
      refine qas (by kernel_rfl) ?_ _
      go_wp2
      go_roundw
      case rel=>exact ⟨k + 1,by go_num,by omega,by rw [HLD.out];exact hI (HMT.out _ B1.out)⟩
      case measure=>simp [intOf];omega
     have kn:decide ((k:Int) < r.n)=false:=decide_eq_false (by have:=HKN.out;have:=HMN.out;omega)
     have hk2:k=r.m.z.size:=by omega
     have HQ:Hid (PW w cs g (l4 ++ r.m.z.toList.flatMap mkB) wr):=by
      have:=HP.out
      rw [hk2,List.take_of_length_le (by simp)] at this
      exact this
     clear hk2 cF hlt hk HP
     obtain ⟨l5,hl5⟩:∃ y,l4 ++ r.m.z.toList.flatMap mkB=y:=⟨_,rfl⟩
     have hl5s:l5.length≤2400000:=by
      have h1:=HK1.out r.m.z.size (Nat.le_refl _)
      rw [List.take_of_length_le (by simp)] at h1
      have:r.m.z.size * 10000≤20 * 10000:=Nat.mul_le_mul_right _ HL.out.h.mn
      rw [←hl5,List.length_append];omega
     rw [hl5] at HQ
     have HL5:=hI hl5
     clear hl5 HK1 hkb
     have HP:=HQ
     clear HQ
     obtain ⟨b0,b1,b2,g0,g1,g2⟩:=qaz HP.out.h
     have c11:=HP.out.x.at_ 11 (v:=.slice r.fr.A r.fr.z.size r.fr.c) (by rw [HCS.out];rfl)
     have HRF:=hI (dRowI l5 r.fr wr (HR.out.below HP.out.x.b).fr HL.out.h.fr.1 HL.out.h.fr.2 (by omega))
     have hfl:=qhf HL.out.h.fr.1 HL.out.h.fr.2
     obtain ⟨l6,hl6⟩:∃ y,l5 ++ mkB r.fr=y:=⟨_,rfl⟩
     have hl6s:l6.length≤2420000:=by
      have e:(mkB r.fr).length≤10000:=hfl
      rw [←hl6,List.length_append];omega
     rw [hl6] at HRF
     have HL6:=hI hl6
     clear hl6 hfl g0 g1 g2
     go_wp2_with fail
     refine HRF.out.mono ?_
     rintro _ w8 ⟨rfl,hb8⟩
     have HP8:=hI (HP.out.step hb8)
     clear hb8 b0 b1 b2 c11 HRF
     obtain ⟨b0,b1,b2,g0,g1,g2⟩:=qaz HP8.out.h
     have hgl:=qaa HP8.out.h
     go_upto_region 17 with (fail)
     have HP:=hI (HP8.out.set l6)
     clear b0 b1 b2 g0 g1 g2 HP8 hgl
     go_wp2_with fail
     have HK1:=hI (qdx (z:=r.d.z) (f:=qqi) (C:=20000) (fun x hx=>qfd (HL.out.h.d x hx).1 (HL.out.h.d x hx).2))
     go_loopw [8] (fun i W=>∃ k:Nat,i=.int .i64 (k:Int)∧k≤r.d.z.size∧Hid (PW w cs g (l6 ++ (r.d.z.toList.take k).flatMap qqi) W)) (fun i _=>r.d.z.size - (intOf i).toNat)
     case atStart=>exact ⟨0,rfl,Nat.zero_le _,by simpa using HP⟩
     case round =>
      obtain ⟨k,rfl,hk,HP⟩:=hrel
      have c0:=HP.out.x.at_ 0 (v:=.int .i64 r.n) (by rw [HCS.out];rfl)
      have cF:=HP.out.x.at_ 12 (v:=.slice r.d.A r.d.z.size r.d.c) (by rw [HCS.out];rfl)
      have hkb:k≤20:=by have:=HL.out.h.dn;omega
      by_cases hlt:k < r.d.z.size
      ·have kn:(k:Int) < r.n:=by have:=HKN.out;have:=HDN.out;omega
       have kz:(k:Int) < (r.d.z.size:Int):=by omega
       obtain ⟨b,off,hA,hbl,f⟩:=(HR.out.below HP.out.x.b).d.rd.at_ (i:=k) hlt
       rw [hA] at cF
       have hmem:r.d.z[k]! ∈ r.d.z.toList:=by rw [getElem!_pos r.d.z k hlt];simp
       have HS:=hI (qbi r.d.z qqi hlt)
       have HKB:=hI (HL.out.h.d _ hmem)
       have HRK:=hI (fun W (hb:Below w.heap.size w W)=>(HR.out.below hb).dd k hlt)
       have hlk:=HK1.out k hk
       obtain ⟨x,hx⟩:∃ x,r.d.z[k]! = x:=⟨_,rfl⟩
       rw [hx] at f HS HKB HRK
       have e0:=f 0 (by omega)
       clear hx f hmem
       simp only [Nat.add_zero,Nat.mul_one,encW,RW.v,List.getElem!_cons_zero] at e0
       obtain ⟨la,hla⟩:∃ y,l6 ++ (r.d.z.toList.take k).flatMap qqi=y:=⟨_,rfl⟩
       have hlas:la.length≤2900000:=by
        have:k * 20000≤20 * 20000:=Nat.mul_le_mul_right _ hkb
        rw [←hla,List.length_append];omega
       rw [hla] at HP
       have HLA:=hI hla
       clear hla hlk
       have HPa:=HP
       have KS:Hid (∀ W,Below wr.heap.size wr W→W.cell? ⟨g,0,none⟩=some (.string (sB la))∧W.cell? ⟨g,1,none⟩=some (.string ⟨#[]⟩)∧W.cell? ⟨g,2,none⟩=some (.int .i64 0)∧W.cell? ⟨w.heap.size,12,none⟩=some (.slice (some ⟨b,off,none⟩) r.d.z.size r.d.c)∧W.cell? ⟨b,off + k,none⟩=some (.slice x.A x.z.size x.c)):=fun W hb=>by
        obtain ⟨k0,k1,k2,_⟩:=qaz (HPa.out.step hb).h
        exact ⟨k0,k1,k2,(hb.cell (qap cF)).trans cF,(hb.cell (qap e0)).trans e0⟩
       have HSP:Hid (∀ W,Below wr.heap.size wr W→_):=fun W hb=>qnc x.A x.c x.z W (HRK.out W (HPa.out.step hb).x.b).rd HKB.out.2
       have HR1:=hI (fun A c W h=>dRowR la A c x.z W h HKB.out.1 HKB.out.2 (by omega))
       obtain ⟨ld,hld⟩:∃ y,la ++ rowB (qbg x.z).flatten=y:=⟨_,rfl⟩
       rw [hld] at HR1
       have HLD:Hid (l6 ++ (r.d.z.toList.take (k + 1)).flatMap qqi=ld):=by
        show _=_
        rw [HS.out,←List.append_assoc,HLA.out,←hld]
        rfl
       clear hld HS
       have HMT:Hid (∀ W,Below wr.heap.size wr W→PW w cs g ld (((W.setCell ⟨g,0,none⟩ (.string (sB ld))).setCell ⟨g,1,none⟩ (.string ⟨#[]⟩)).setCell ⟨g,2,none⟩ (.int .i64 0))):=fun W hb=>(HPa.out.step hb).set ld
       go_wp2_with fail
       refine qat (S:=fun W=>W.cell? ⟨g,0,none⟩=some (.string (sB la))∧W.cell? ⟨g,1,none⟩=some (.string ⟨#[]⟩)∧W.cell? ⟨g,2,none⟩=some (.int .i64 0)∧W.cell? ⟨w.heap.size,12,none⟩=some (.slice (some ⟨b,off,none⟩) r.d.z.size r.d.c)∧W.cell? ⟨b,off + k,none⟩=some (.slice x.A x.z.size x.c)) (by kernel_rfl) ?_
       have hS:=KS.out wr.drew (Below.refl _ _).drew
       refine tkF 98 0 rfl rfl hS ?_
       simp only [Act.put,sA,s0,s1]
       refine tkF 99 1 rfl rfl hS ?_
       simp only [Act.put,sA,s0,s1]
       refine tkF 100 2 rfl rfl hS ?_
       simp only [Act.put,sA,s0,s1]
       refine tkF 101 3 rfl rfl hS ?_
       simp only [Act.put,sA,s0,s1]
       refine tkF 102 4 rfl rfl hS ?_
       simp only [Act.put,sA,s0,s1]
       refine tkF 103 5 rfl rfl hS ?_
       simp only [Act.put,sA,s0,s1]
       have B0:Hid (Below wr.heap.size wr wr.drew):=(Below.refl _ _).drew
       refine rdy1 6 rfl (fun K hK=>?_)
       go_simp
       refine (HSP.out _ B0.out).mono ?_
       rintro _ w11 ⟨A11,c11,rfl,hrd11,hb11⟩
       have B11:=hI (qac B0.out hb11)
       have HRP11:=hI hrd11
       clear hrd11
       clear hb11
       refine hK.out _ _ (KS.out _ B11.out) (fun _=>?_)
       clear hK K
       refine rdy1 7 rfl (fun K hK=>?_)
       go_simp
       refine (HR1.out A11 c11 _ HRP11.out).mono ?_
       rintro _ w12 ⟨rfl,hb12⟩
       have B12:=hI (qac B11.out hb12)
       clear hb12
       refine hK.out _ _ (KS.out _ B12.out) (fun _=>?_)
       clear hK K
       have HP6:=hI (HPa.out.step B12.out)
       obtain ⟨o0,o1,o2,g0,g1,g2⟩:=qaz HP6.out.h
       have hgl:=qaa HP6.out.h
       refine rdyL 8 rfl (fun K hK=>?_)
       go_simp
       refine hK.out _ _ ?_
       clear hK K o0 o1 o2 g0 g1 g2
       refine qas (by kernel_rfl) ?_ _
       go_wp2
       go_roundw
       case rel=>exact ⟨k + 1,by go_num,by omega,by rw [HLD.out];exact hI (HMT.out _ B12.out)⟩
       case measure=>simp [intOf];omega
      have kn:decide ((k:Int) < r.n)=false:=decide_eq_false (by have:=HKN.out;have:=HDN.out;omega)
      have hk2:k=r.d.z.size:=by omega
      have HQ:Hid (PW w cs g (l6 ++ r.d.z.toList.flatMap qqi) wr):=by
       have:=HP.out
       rw [hk2,List.take_of_length_le (by simp)] at this
       exact this
      clear hk2 cF hlt hk HP
      obtain ⟨l7,hl7⟩:∃ y,l6 ++ r.d.z.toList.flatMap qqi=y:=⟨_,rfl⟩
      have hl7s:l7.length≤2900000:=by
       have h1:=HK1.out r.d.z.size (Nat.le_refl _)
       rw [List.take_of_length_le (by simp)] at h1
       have:r.d.z.size * 20000≤20 * 20000:=Nat.mul_le_mul_right _ HL.out.h.dn
       rw [←hl7,List.length_append];omega
      rw [hl7] at HQ
      have HL7:=hI hl7
      clear hl7 HK1 hkb
      have HP:=HQ
      clear HQ
      clear hl5s hl6s
      obtain ⟨b0,b1,b2,g0,g1,g2⟩:=qaz HP.out.h
      have cF:=HP.out.x.at_ 16 (v:=.slice r.it.A r.it.z.size r.it.c) (by rw [HCS.out];rfl)
      have HN1:=hI (fun p W (hg:W.heap[p]?=some (.cells #[.int .i64 (r.it.z.size:Int)] 3 (0,0)))=>qqs (g:=p) (c:=1) l7 [(r.it.z.size:Int)] W hg (by intro y hy;simp at hy;rw [hy];unfold may6;have:=HL.out.s.i;omega) (by simp) (by omega))
      have hnl:(([(r.it.z.size:Int)].map Int.toNat).flatMap numB).length≤9:=by
       have:=qfa (l:=[(r.it.z.size:Int)]) (by intro y hy;simp at hy;rw [hy];unfold may6;have:=HL.out.s.i;omega)
       simpa using this
      obtain ⟨l8,hl8⟩:∃ y,l7 ++ ([(r.it.z.size:Int)].map Int.toNat).flatMap numB=y:=⟨_,rfl⟩
      have hl8s:l8.length≤2900100:=by rw [←hl8,List.length_append];omega
      rw [hl8] at HN1
      simp only [List.length_cons,List.length_nil,Nat.zero_add] at HN1
      have HL8:=hI hl8
      clear hl8 hnl g0 g1 g2
      go_wp2_with fail
      clear kn
      refine (HN1.out _ _ (qah _ _)).mono ?_
      rintro _ w8 ⟨rfl,hb8⟩
      have HP8:=hI (HP.out.step (qac (bel1 _ _) hb8))
      clear hb8 b0 b1 b2 cF HN1
      obtain ⟨b0,b1,b2,g0,g1,g2⟩:=qaz HP8.out.h
      have hgl:=qaa HP8.out.h
      go_upto_region 22 with (fail)
      have HP:=hI (HP8.out.set l8)
      clear b0 b1 b2 g0 g1 g2 HP8 hgl
      go_wp2_with fail
      have HK1:=hI (qdx (z:=r.it.z) (f:=itL) (C:=100) (fun x hx=>itL_len (HL.out.s.ii x hx)))
      go_loopw [9] (fun i W=>∃ k:Nat,i=.int .i64 (k:Int)∧k≤r.it.z.size∧Hid (PW w cs g (l8 ++ (r.it.z.toList.take k).flatMap itL) W)) (fun i _=>r.it.z.size - (intOf i).toNat)
      case atStart=>exact ⟨0,rfl,Nat.zero_le _,by simpa using HP⟩
      case round =>
       obtain ⟨k,rfl,hk,HP⟩:=hrel
       have cF:=HP.out.x.at_ 16 (v:=.slice r.it.A r.it.z.size r.it.c) (by rw [HCS.out];rfl)
       have hkb:k≤20:=by have:=HL.out.s.i;omega
       by_cases hlt:k < r.it.z.size
       ·have kz:(k:Int) < (r.it.z.size:Int):=by omega
        obtain ⟨b,off,hA,hbl,f⟩:=(HR.out.below HP.out.x.b).it.rd.at_ (i:=k) hlt
        rw [hA] at cF
        clear hA
        have hmem:r.it.z[k]! ∈ r.it.z.toList:=by rw [getElem!_pos r.it.z k hlt];simp
        have HS:=hI (qbi r.it.z itL hlt)
        have HKB:=hI (HL.out.s.ii _ hmem)
        have hlk:=HK1.out k hk
        obtain ⟨x,hx⟩:∃ x,r.it.z[k]! = x:=⟨_,rfl⟩
        rw [hx] at f HS HKB
        have e0:=f 0 (by omega)
        have e1:=f 1 (by omega)
        have e2:=f 2 (by omega)
        have e3:=f 3 (by omega)
        clear hx f hmem
        simp only [Nat.add_zero,qdc,List.getElem!_cons_zero,List.getElem!_cons_succ] at e0 e1 e2 e3
        obtain ⟨la,hla⟩:∃ y,l8 ++ (r.it.z.toList.take k).flatMap itL=y:=⟨_,rfl⟩
        have hlas:la.length≤2903000:=by
         have:k * 100≤20 * 100:=Nat.mul_le_mul_right _ hkb
         rw [←hla,List.length_append];omega
        rw [hla] at HP
        have HLA:=hI hla
        clear hla hlk
        go_upto_region 26 with (fail)
        obtain ⟨wa,hwa⟩:∃ W,W=wr.alloc (.cells #[.int .i64 x.id,.int .i64 x.free,.int .i64 x.held,.int .i64 x.gone] 84):=⟨_,rfl⟩
        have HPa:Hid (PW w cs g la wa):=by show PW _ _ _ _ _;rw [hwa];exact HP.out.step (bel1 _ _)
        have KE:Hid (wa.heap[wr.heap.size]?=some (.cells #[.int .i64 x.id,.int .i64 x.free,.int .i64 x.held,.int .i64 x.gone] 84 (0,0))):=by show _=_;rw [hwa];exact heap_alloc_new _ _
        rw [←hwa]
        obtain ⟨q,hq⟩:∃ q,q=wr.heap.size:=⟨_,rfl⟩
        rw [←hq] at KE ⊢
        clear hwa hq cF e0 e1 e2 e3 hbl HP
        have HN1:=hI (fun p W (hg:W.heap[p]?=some (.cells #[.int .i64 x.id,.int .i64 x.free,.int .i64 x.held,.int .i64 x.gone] 3 (0,0)))=>qqs (g:=p) (c:=4) la [x.id,x.free,x.held,x.gone] W hg HKB.out (by simp) (by omega))
        obtain ⟨ld,hld⟩:∃ y,la ++ ([x.id,x.free,x.held,x.gone].map Int.toNat).flatMap numB=y:=⟨_,rfl⟩
        rw [hld] at HN1
        simp only [List.length_cons,List.length_nil,Nat.zero_add,Nat.reduceAdd] at HN1
        have HLD:Hid (l8 ++ (r.it.z.toList.take (k + 1)).flatMap itL=ld):=by
         show _=_
         rw [HS.out,←List.append_assoc,HLA.out,←hld]
         rfl
        clear hld HS
        obtain ⟨b0,b1,b2,g0,g1,g2⟩:=qaz HPa.out.h
        have q0:=(qab KE.out 0).trans rfl
        have q1:=(qab KE.out 1).trans rfl
        have q2:=(qab KE.out 2).trans rfl
        have q3:=(qab KE.out 3).trans rfl
        clear g0 g1 g2
        go_wp2_with fail
        refine (HN1.out _ _ (qah _ _)).mono ?_
        rintro _ w8 ⟨rfl,hb8⟩
        have HP8:=hI (HPa.out.step (qac (bel1 _ _) hb8))
        clear hb8 b0 b1 b2 q0 q1 q2 q3 HN1
        obtain ⟨b0,b1,b2,g0,g1,g2⟩:=qaz HP8.out.h
        have hgl:=qaa HP8.out.h
        have HP9:=hI (HP8.out.set ld)
        go_wp2
        clear b0 b1 b2 g0 g1 g2
        go_roundw
        case rel=>exact ⟨k + 1,by go_num,by omega,by rw [HLD.out];exact HP9⟩
        case measure=>simp [intOf];omega
       have kn:decide ((k:Int) < (r.it.z.size:Int))=false:=decide_eq_false (by omega)
       have hk2:k=r.it.z.size:=by omega
       have HQ:Hid (PW w cs g (l8 ++ r.it.z.toList.flatMap itL) wr):=by
        have:=HP.out
        rw [hk2,List.take_of_length_le (by simp)] at this
        exact this
       clear hk2 hk HP
       obtain ⟨l9,hl9⟩:∃ y,l8 ++ r.it.z.toList.flatMap itL=y:=⟨_,rfl⟩
       have hl9s:l9.length≤2903000:=by
        have h1:=HK1.out r.it.z.size (Nat.le_refl _)
        rw [List.take_of_length_le (by simp)] at h1
        have:r.it.z.size * 100≤20 * 100:=Nat.mul_le_mul_right _ HL.out.s.i
        rw [←hl9,List.length_append];omega
       rw [hl9] at HQ
       have HL9:=hI hl9
       clear hl9 HK1 hkb
       have HP:=HQ
       clear HQ
       obtain ⟨b0,b1,b2,g0,g1,g2⟩:=qaz HP.out.h
       have cF:=HP.out.x.at_ 17 (v:=.slice r.ss.A r.ss.z.size r.ss.c) (by rw [HCS.out];rfl)
       have HN1:=hI (fun p W (hg:W.heap[p]?=some (.cells #[.int .i64 (r.ss.z.size:Int)] 3 (0,0)))=>qqs (g:=p) (c:=1) l9 [(r.ss.z.size:Int)] W hg (by intro y hy;simp at hy;rw [hy];unfold may6;have:=HL.out.s.s;omega) (by simp) (by omega))
       have hnl:(([(r.ss.z.size:Int)].map Int.toNat).flatMap numB).length≤9:=by
        have:=qfa (l:=[(r.ss.z.size:Int)]) (by intro y hy;simp at hy;rw [hy];unfold may6;have:=HL.out.s.s;omega)
        simpa using this
       obtain ⟨l10,hl10⟩:∃ y,l9 ++ ([(r.ss.z.size:Int)].map Int.toNat).flatMap numB=y:=⟨_,rfl⟩
       have hl10s:l10.length≤2903100:=by rw [←hl10,List.length_append];omega
       rw [hl10] at HN1
       simp only [List.length_cons,List.length_nil,Nat.zero_add] at HN1
       have HL10:=hI hl10
       clear hl10 hnl g0 g1 g2
       go_wp2_with fail
       clear kn
       refine (HN1.out _ _ (qah _ _)).mono ?_
       rintro _ w8 ⟨rfl,hb8⟩
       have HP8:=hI (HP.out.step (qac (bel1 _ _) hb8))
       clear hb8 b0 b1 b2 cF HN1
       obtain ⟨b0,b1,b2,g0,g1,g2⟩:=qaz HP8.out.h
       have hgl:=qaa HP8.out.h
       go_upto_region 28 with (fail)
       have HP:=hI (HP8.out.set l10)
       clear b0 b1 b2 g0 g1 g2 HP8 hgl
       go_wp2_with fail
       have HK1:=hI (qdx (z:=r.ss.z) (f:=seL) (C:=500) (fun x hx=>seL_len (HL.out.s.si x hx)))
       go_loopw [11] (fun i W=>∃ k:Nat,i=.int .i64 (k:Int)∧k≤r.ss.z.size∧Hid (PW w cs g (l10 ++ (r.ss.z.toList.take k).flatMap seL) W)) (fun i _=>r.ss.z.size - (intOf i).toNat)
       case atStart=>exact ⟨0,rfl,Nat.zero_le _,by simpa using HP⟩
       case round =>
        obtain ⟨k,rfl,hk,HP⟩:=hrel
        have cF:=HP.out.x.at_ 17 (v:=.slice r.ss.A r.ss.z.size r.ss.c) (by rw [HCS.out];rfl)
        have hkb:k≤20:=by have:=HL.out.s.s;omega
        by_cases hlt:k < r.ss.z.size
        ·have kz:(k:Int) < (r.ss.z.size:Int):=by omega
         obtain ⟨b,off,hA,hbl,f⟩:=(HR.out.below HP.out.x.b).ss.rd.at_ (i:=k) hlt
         rw [hA] at cF
         clear hA
         have hmem:r.ss.z[k]! ∈ r.ss.z.toList:=by rw [getElem!_pos r.ss.z k hlt];simp
         have HS:=hI (qbi r.ss.z seL hlt)
         have HKB:=hI (HL.out.s.si _ hmem)
         have hlk:=HK1.out k hk
         obtain ⟨x,hx⟩:∃ x,r.ss.z[k]! = x:=⟨_,rfl⟩
         rw [hx] at f HS HKB
         have e0:=f 0 (by omega)
         have e1:=f 1 (by omega)
         have e2:=f 2 (by omega)
         clear hx f hmem
         simp only [Nat.add_zero,qcw,List.getElem!_cons_zero,List.getElem!_cons_succ] at e0 e1 e2
         obtain ⟨la,hla⟩:∃ y,l10 ++ (r.ss.z.toList.take k).flatMap seL=y:=⟨_,rfl⟩
         have hlas:la.length≤2915000:=by
          have:k * 500≤20 * 500:=Nat.mul_le_mul_right _ hkb
          rw [←hla,List.length_append];omega
         rw [hla] at HP
         have HLA:=hI hla
         clear hla hlk
         go_upto_region 32 with (fail)
         obtain ⟨wa,hwa⟩:∃ W,W=wr.alloc (.cells #[.int .i64 x.cl,.int .i64 x.seq,.string x.rep] 86):=⟨_,rfl⟩
         have HPa:Hid (PW w cs g la wa):=by show PW _ _ _ _ _;rw [hwa];exact HP.out.step (bel1 _ _)
         have KE:Hid (wa.heap[wr.heap.size]?=some (.cells #[.int .i64 x.cl,.int .i64 x.seq,.string x.rep] 86 (0,0))):=by show _=_;rw [hwa];exact heap_alloc_new _ _
         rw [←hwa]
         obtain ⟨q,hq⟩:∃ q,q=wr.heap.size:=⟨_,rfl⟩
         rw [←hq] at KE ⊢
         clear hwa hq cF e0 e1 e2 hbl HP
         have KS:Hid (∀ W,Below wa.heap.size wa W→W.cell? ⟨g,0,none⟩=some (.string (sB la))∧W.cell? ⟨g,1,none⟩=some (.string ⟨#[]⟩)∧W.cell? ⟨g,2,none⟩=some (.int .i64 0)∧W.cell? ⟨q,0,none⟩=some (.int .i64 x.cl)∧W.cell? ⟨q,1,none⟩=some (.int .i64 x.seq)∧W.cell? ⟨q,2,none⟩=some (.string x.rep)):=fun W hb=>by
          obtain ⟨k0,k1,k2,_⟩:=qaz (HPa.out.step hb).h
          have k3:=(hb.block _ (qaa KE.out)).trans KE.out
          exact ⟨k0,k1,k2,by rw [qab k3];rfl,by rw [qab k3];rfl,by rw [qab k3];rfl⟩
         have HN1:=hI (fun p W (hg:W.heap[p]?=some (.cells #[.int .i64 x.cl,.int .i64 x.seq] 3 (0,0)))=>qqs (g:=p) (c:=2) la [x.cl,x.seq] W hg HKB.out.1 (by simp) (by omega))
         have hnl:=qfa (l:=[x.cl,x.seq]) HKB.out.1
         obtain ⟨lb,hlb⟩:∃ y,la ++ ([x.cl,x.seq].map Int.toNat).flatMap numB=y:=⟨_,rfl⟩
         have hlbs:lb.length≤2915100:=by
          simp only [List.length_cons,List.length_nil] at hnl
          rw [←hlb,List.length_append];omega
         rw [hlb] at HN1
         simp only [List.length_cons,List.length_nil,Nat.zero_add,Nat.reduceAdd] at HN1
         have HTX:=hI (fun W=>dText lb x.rep W (by have:=HKB.out.2;omega) (by omega))
         obtain ⟨ld,hld⟩:∃ y,lb ++ qea x.rep.data.toList=y:=⟨_,rfl⟩
         rw [hld] at HTX
         have HLD:Hid (l10 ++ (r.ss.z.toList.take (k + 1)).flatMap seL=ld):=by
          show _=_
          rw [HS.out,←List.append_assoc,HLA.out,←hld,←hlb,List.append_assoc]
          rfl
         clear hlb hld hnl HS
         have HMT:Hid (∀ W,Below wa.heap.size wa W→PW w cs g ld (((W.setCell ⟨g,0,none⟩ (.string (sB ld))).setCell ⟨g,1,none⟩ (.string ⟨#[]⟩)).setCell ⟨g,2,none⟩ (.int .i64 0))):=fun W hb=>(HPa.out.step hb).set ld
         go_wp2_with fail
         refine qat (S:=fun W=>W.cell? ⟨g,0,none⟩=some (.string (sB la))∧W.cell? ⟨g,1,none⟩=some (.string ⟨#[]⟩)∧W.cell? ⟨g,2,none⟩=some (.int .i64 0)∧W.cell? ⟨q,0,none⟩=some (.int .i64 x.cl)∧W.cell? ⟨q,1,none⟩=some (.int .i64 x.seq)∧W.cell? ⟨q,2,none⟩=some (.string x.rep)) (by kernel_rfl) ?_
         have hS:=KS.out wa.drew (Below.refl _ _).drew
         refine tkF 159 0 rfl rfl hS ?_
         simp only [Act.put,sA,s0,s1]
         refine tkF 160 1 rfl rfl hS ?_
         simp only [Act.put,sA,s0,s1]
         refine tkF 161 2 rfl rfl hS ?_
         simp only [Act.put,sA,s0,s1]
         refine tkF 162 3 rfl rfl hS ?_
         simp only [Act.put,sA,s0,s1]
         refine tkF 163 4 rfl rfl hS ?_
         simp only [Act.put,sA,s0,s1]
         refine tkF 166 7 rfl rfl hS ?_
         simp only [Act.put,sA,s0,s1]
         refine tkF 167 8 rfl rfl hS ?_
         simp only [Act.put,sA,s0,s1]
         have B0:Hid (Below wa.heap.size wa wa.drew):=(Below.refl _ _).drew
         refine rdy1 5 rfl (fun K hK=>?_)
         go_simp
         have B13:=hI (qad B0.out (.cells #[.int .i64 x.cl,.int .i64 x.seq] 3))
         have hb13:=bel1 wa.drew (.cells #[.int .i64 x.cl,.int .i64 x.seq] 3)
         have HG13:=hI (qah wa.drew (.cells #[.int .i64 x.cl,.int .i64 x.seq] 3))
         clear hb13
         refine hK.out _ _ (KS.out _ B13.out) (fun _=>?_)
         clear hK K
         refine rdy1 6 rfl (fun K hK=>?_)
         go_simp
         refine (HN1.out _ _ HG13.out).mono ?_
         rintro _ w14 ⟨rfl,hb14⟩
         have B14:=hI (qac B13.out hb14)
         clear hb14
         refine hK.out _ _ (KS.out _ B14.out) (fun _=>?_)
         clear hK K
         refine rdy1 9 rfl (fun K hK=>?_)
         go_simp
         refine (HTX.out _).mono ?_
         rintro _ w15 ⟨rfl,hb15⟩
         have B15:=hI (qac B14.out hb15)
         clear hb15
         refine hK.out _ _ (KS.out _ B15.out) (fun _=>?_)
         clear hK K
         have HP6:=hI (HPa.out.step B15.out)
         obtain ⟨o0,o1,o2,g0,g1,g2⟩:=qaz HP6.out.h
         have hgl:=qaa HP6.out.h
         refine rdyL 10 rfl (fun K hK=>?_)
         go_simp
         refine hK.out _ _ ?_
         clear hK K o0 o1 o2 g0 g1 g2
         refine qas (by kernel_rfl) ?_ _
         go_wp2
         go_roundw
         case rel=>exact ⟨k + 1,by go_num,by omega,by rw [HLD.out];exact hI (HMT.out _ B15.out)⟩
         case measure=>simp [intOf];omega
        have kn:decide ((k:Int) < (r.ss.z.size:Int))=false:=decide_eq_false (by omega)
        have hk2:k=r.ss.z.size:=by omega
        have HQ:Hid (PW w cs g (l10 ++ r.ss.z.toList.flatMap seL) wr):=by
         have:=HP.out
         rw [hk2,List.take_of_length_le (by simp)] at this
         exact this
        clear hk2 hk HP
        obtain ⟨l11,hl11⟩:∃ y,l10 ++ r.ss.z.toList.flatMap seL=y:=⟨_,rfl⟩
        have hl11s:l11.length≤2915000:=by
         have h1:=HK1.out r.ss.z.size (Nat.le_refl _)
         rw [List.take_of_length_le (by simp)] at h1
         have:r.ss.z.size * 500≤20 * 500:=Nat.mul_le_mul_right _ HL.out.s.s
         rw [←hl11,List.length_append];omega
        rw [hl11] at HQ
        have HL11:=hI hl11
        clear hl11 HK1 hkb
        have HP:=HQ
        clear HQ
        obtain ⟨b0,b1,b2,_,_,_⟩:=qaz HP.out.h
        have HBY:Hid (qbs r=l11):=by
         show _=_
         rw [←HL11.out,←HL10.out,←HL9.out,←HL8.out,←HL7.out,←HL6.out,←HL5.out,←HL4.out,←HL3.out,←HL2.out,←HL1.out]
         unfold qbs qou stoL
         have e1:([(r.it.z.size:Int)].map Int.toNat).flatMap numB=numB r.it.z.size:=by simp
         have e2:([(r.ss.z.size:Int)].map Int.toNat).flatMap numB=numB r.ss.z.size:=by simp
         have e3:r.m.z.toList.flatMap mkB=r.m.z.toList.flatMap (fun x=>rowB (intM x.z).flatten):=rfl
         have e4:r.d.z.toList.flatMap qqi=r.d.z.toList.flatMap (fun x=>rowB (qbg x.z).flatten):=rfl
         have e5:mkB r.fr=rowB (intM r.fr.z).flatten:=rfl
         rw [e1,e2,e3,e4,e5]
         simp only [List.append_assoc]
        rw [HBY.out] at HPE
        have hsz:(sB l11).size=l11.length:=qox l11
        by_cases hbig:18000 < l11.length
        ·have kb:(18000:Int) < ((sB l11).size:Int):=by omega
         have HP3:Hid (putE r=3):=by show _=_;rw [HPE.out,if_pos hbig]
         have HSZ:=hI hsz
         clear hbig hsz
         go_wp2
         go_ret2
         exact ⟨PutO.bad HP3.out (by decide) rfl,HP.out.x.b⟩
        ·have kb:decide ((18000:Int) < ((sB l11).size:Int))=false:=decide_eq_false (by omega)
         have HP3:Hid (putE r=0):=by show _=_;rw [HPE.out,if_neg hbig]
         have HSZ:=hI hsz
         clear hbig hsz
         go_wp2
         go_ret2
         refine ⟨?_,HP.out.x.b⟩
         unfold PutO
         rw [HP3.out,if_pos rfl,HBY.out]
         rfl
  ·simp only [if_true] at HPE
   go_wp2
   go_ret2
   exact ⟨PutO.bad HPE.out (by decide) rfl,HX.out.b⟩
 exact hgoal _ hcs
end Go.Proofs.YtnmojicfmcbgmaaGreatDoor
namespace Go.Proofs.YtnmojicfmcbgmaaGreatDoor
open Go.RowKit Go.Sort Go.Lib Nb
set_option maxRecDepth 100000
def pbR (r:RP):ByteArray:=if putE r=0 then sB (qbs r) else ⟨#[]⟩
theorem ip_put (r:RP) (W:World) (h:RdP W r) (hf:FewC r) :
 Calls Tryz.prog 8 #[.agg (encP r).toArray] W fun e w'=>∃ (v:Value) (ops:List ByteArray),e=.returned (.tuple #[.string (pbR r),v])∧ErrV w' ops (putE r) v∧Below W.heap.size W w':=by
 refine (qis r W h hf).mono ?_
 rintro e w' ⟨⟨h0,rfl⟩ | ⟨h0,v,rfl,hch⟩,hb⟩
 ·exact ⟨.nilIface,[],by unfold pbR;rw [if_pos h0];rfl,by rw [h0];exact Or.inl ⟨rfl,rfl,rfl⟩,hb⟩
 ·exact ⟨v,_,by unfold pbR;rw [if_neg h0],Or.inr ⟨h0,hch⟩,hb⟩
theorem ip_rput (r:RP) (W:World) (h:RdP W r) (hf:FewC r) :
 Calls Tryz.prog 9 #[.agg (encP r).toArray] W fun e w'=>e=.returned (.tuple #[.string (pbR r),.int .i64 (putE r)])∧Below W.heap.size W w':=rPutI_any r W h hf
theorem ip_size (r:RP) (W:World) (h:RdP W r) (hf:FewC r) :
 Calls Tryz.prog 13 #[.agg (encP r).toArray] W fun e w'=>e=.returned (.int .i64 ((pbR r).size:Int))∧Below W.heap.size W w':=by
 refine (qju r W h hf).mono ?_
 rintro e w' ⟨rfl,hb⟩
 refine ⟨?_,hb⟩
 unfold pbR
 by_cases h0:putE r=0
 ·rw [if_pos h0,if_pos h0]
  show _=Ending.returned (.int .i64 (((qbs r).toArray.size:Nat):Int))
  rw [List.size_toArray]
 ·rw [if_neg h0,if_neg h0]
  rfl
theorem ip_take (s:ByteArray) (hs:s.size≤1000000) (W:World) (hg:Glob W) :
 Calls Tryz.prog 10 #[.string s] W fun e w'=>∃ (R:RP) (c:Nat) (cs:Array Value) (ev:Value),e=.returned (.tuple #[.agg cs,ev])∧cs=(encP R).toArray∧TkO s.data.toList R c∧RdP w' R∧ErrI w' c ev∧Below W.heap.size W w' :=
 (qjt s W hg hs).mono fun _ _ ⟨R,c,ev,he,ht,hr,herr,hb⟩=>⟨R,c,_,ev,he,rfl,ht,hr,herr,hb⟩
theorem ip_rtake (s:ByteArray) (hs:s.size≤1000000) (W:World) :
 Calls Tryz.prog 11 #[.string s] W fun e w'=>∃ (R:RP) (c:Nat) (cs:Array Value),e=.returned (.tuple #[.agg cs,.int .i64 (c:Int)])∧cs=(encP R).toArray∧TkO s.data.toList R c∧RdP w' R∧Below W.heap.size W w' :=
 (dTk_any s W hs).mono fun _ _ ⟨R,c,he,ht,hr,hb⟩=>⟨R,c,_,he,rfl,ht,hr,hb⟩
theorem tkO_few {s:List UInt8} {R:RP} {c:Nat} (h:TkO s R c):FewC R∧R.it.z.size≤1000∧R.ss.z.size≤1000:=by
 by_cases hc:c=0
 ·subst hc
  have:=(tk_put h).2.1
  exact ⟨this.c,this.it,this.ss⟩
 ·rw [tkO_code h hc]
  exact ⟨qgr,by decide,by decide⟩
theorem ip_at {c:Nat} {ev:Value} (hc:c≠0) (W:World) (hg:Glob W) (h:ErrI W c ev) :
 Calls Tryz.prog 15 #[ev,.string ⟨#[105,109,97,103,101]⟩] W fun e w'=>e=.returned (.bool true)∧Below W.heap.size W w':=by
 rcases h with ⟨h,_⟩ | ⟨_,ops,hl,hch⟩
 ·exact absurd h hc
 ·have:=At_any (qdn :: ops) c ev ⟨#[105,109,97,103,101]⟩ W hg hch (by rw [List.length_cons];omega)
  rw [show hasS (qdn :: ops) ⟨#[105,109,97,103,101]⟩=true by unfold hasS qdn;simp] at this
  exact this
theorem ErrI.below {w w':World} {c:Nat} {ev:Value} (h:ErrI w c ev) (hb:Below w.heap.size w w'):ErrI w' c ev:=by
 rcases h with h | ⟨h,ops,hl,hch⟩
 ·exact Or.inl h
 ·exact Or.inr ⟨h,ops,hl,hch.below hb⟩
theorem ip_code {c:Nat} {ev:Value} (W:World) (hg:Glob W) (h:ErrI W c ev) :
 Calls Tryz.prog 12 #[ev] W fun e w'=>e=.returned (.int .i64 (c:Int))∧Below W.heap.size W w':=by
 obtain ⟨ops,hv⟩:=h.v
 exact qkn ops c ev W hg hv
end Go.Proofs.YtnmojicfmcbgmaaGreatDoor
