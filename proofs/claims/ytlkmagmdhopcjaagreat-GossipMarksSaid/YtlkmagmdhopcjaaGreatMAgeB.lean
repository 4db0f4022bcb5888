/- Texts that the law leans on. -/
import Derived.Test.YtlkmagmdhopcjaaGreatMGoP
import Derived.Test.YtlkmagmdhopcjaaGreatMStV
import Derived.Test.YtlkmagmdhopcjaaGreatMClP
namespace Go.Proofs.YtlkmagmdhopcjaaGreat
open Go.RowKit Go.Sort Go.Lib
set_option maxRecDepth 100000
attribute [local go_sem ↓] qak qai
attribute [local go_sem] qao qaj qah qaq qbd
theorem sep_age {r:RP} {W:World} {A:Option Addr} {c B:Nat} {t:Int} (hK:W.ownsRow B 58 10 (.slice A r.e.z.size c) r.e.z.size (flatK encE 10 (ageK r.e.z r.e.z.size)).toList):SepR r B W { r with ticks:=t,e:=⟨A,c,ageK r.e.z r.e.z.size⟩ }:=fun W' hr ho hs=>by
 have hk:=qdz hK (Nat.le_refl _) ho
 have hz:=qch r.e.z r.e.z.size
 obtain ⟨A',c',e,h1,_⟩:=qaw (enc:=encE) (d:=ageK r.e.z r.e.z.size) (by rw [hz];exact hk)
 injection e with q1 q2 q3
 subst q1
 refine ⟨⟨h1,fun i hi=>?_⟩,hr.o,hr.k,hr.kk,hr.m,hr.mm,hr.fr,hr.d,hr.dd,hr.it,hr.ss⟩
 have hi':i < r.e.z.size:=by rw [←hz];exact hi
 show RdE0 W' (ageK r.e.z r.e.z.size)[i]!
 rw [qgl _ _ hi',if_pos hi']
 exact ageE_rd (hr.e.el i hi')
set_option maxHeartbeats 8000000 in
theorem qup (r:RP) (w:World) (h:RdP w r) (hf:FewC r) :
 Calls Tryz.prog 26 #[.agg (encP r).toArray] w fun e w'=>(∃ s:RP,e=.returned (.agg (encP s).toArray)∧AgedR r s∧SepR r w.heap.size w' s)∧Below w.heap.size w w':=by
 have HC:Hid (∀ W,Below w.heap.size w W→Calls Tryz.prog 15 #[.agg (encP r).toArray] W fun e w'=>e=.returned (.int .i64 (repE r))∧Below W.heap.size W w'):=fun W hb=>qbh r W (h.below hb) hf
 have hez:=hf.es
 have HCl:Hid (∀ W,Below w.heap.size w W→Calls Tryz.prog 62 #[.slice r.e.A r.e.z.size r.e.c] W fun e w'=>∃ A c,e=.returned (.slice A r.e.z.size c)∧w'.ownsRow W.heap.size 58 10 (.slice A r.e.z.size c) r.e.z.size (flatK encE 10 r.e.z).toList∧Below W.heap.size W w'):=fun W hb =>
  (CloneN r.e.A r.e.c r.e.z W (h.e.below hb).rd (by omega)).mono fun e w' ⟨v,he,ho,hb2⟩=>by
    obtain ⟨A,c,rfl⟩:=qks ho
    exact ⟨A,c,he,ho,hb2⟩
 obtain ⟨cs,hcs⟩:∃ cs,cs=(encP r).toArray:=⟨_,rfl⟩
 obtain ⟨hsz,hone⟩:=rowP hcs
 have HCS:=hI hcs
 have HQ6:Hid (cs[6]?=some (.int .i64 r.ticks)):=by show _=_;rw [hcs];rfl
 have HQ7:Hid (cs[7]?=some (.slice r.e.A r.e.z.size r.e.c)):=by show _=_;rw [hcs];rfl
 have HT:=hI (fun hc:chkR r=true=>(qbi r).1 hc)
 rw [←hcs] at HC
 clear h hf
 have hgoal:∀ x:Array Value,cs=x→Calls Tryz.prog 26 #[.agg x] w fun e w'=>(∃ s:RP,e=.returned (.agg (encP s).toArray)∧AgedR r s∧SepR r w.heap.size w' s)∧Below w.heap.size w w':=by
  rintro _ rfl
  simp only [encP] at hcs
  rw [hcs]
  go_enter Tryz.func26,Tryz.ntmps26
  rw [←hcs]
  clear hcs
  have HX:=hI (BoxG.fst w cs qbp 35 35)
  have HZ:=hI (BoxG.snd w cs qbp 35 35)
  simp only [qbp] at HX HZ
  have x1:=HX.out.box hsz
  have x2:=HX.out.rowAt
  by_cases hc:chkR r=true
  ·rw [qcw hc] at HC
   have ht0:=HT.out hc
   have htk:0≤r.ticks∧r.ticks≤1000000:=⟨ht0.1.2.2.2.2.2.2.1,ht0.1.2.2.2.2.2.2.2.1⟩
   have HAG:Hid (∀ i,i < r.e.z.size→0≤r.e.z[i]!.age∧r.e.z[i]!.age≤1000000):=fun i hi=>by
    have h1:=(qct.1 (qob hc)).2 i hi
    unfold atT at h1
    simp only [Bool.and_eq_true] at h1
    have h2:qcp r.e.z[i]! = true:=by first | exact h1.1 | exact h1.1.1 | exact h1.1.1.1
    have h3:=((chkEn_iff _).1 h2).2.1
    unfold qpc at h3
    omega
   clear ht0
   have hwr:IntKind.i64.wrap (r.ticks + 1)=r.ticks + 1:=IntWalk.i64_in _ (by omega)
   go_upto_region 3 with (go_at_call 15;refine (HC.out _ HX.out.b).mono ?_;rintro _ w1 ⟨rfl,hb⟩;have HX1:=hI (HX.out.next hb);have HZ1:=hI (HZ.out.next hb);have HZl:=HZ1.out.lt;clear hb x1 x2;have c6:=HX1.out.at_ 6 HQ6.out;have f6:=HX1.out.froz 6)
   go_upto_region 4 with fail
   obtain ⟨T,hT⟩:∃ T,min (r.ticks + 1) 1000000=T:=⟨_,rfl⟩
   rw [hT]
   have HTT:=hI hT
   have HCK:=hI hc
   have HX2:=hI (HX1.out.set (Nat.le_refl _) 6 (.int .i64 T))
   have HZ2:=hI (HZ1.out.far (g2:=w.heap.size) (Nat.le_refl _) (by omega) 6 (.int .i64 T))
   obtain ⟨cs6,hcs6⟩:∃ c,c=cs.setIfInBounds 6 (.int .i64 T):=⟨_,rfl⟩
   rw [←hcs6] at HX2
   obtain ⟨w2,hw2⟩:∃ W,W=w1.setCell ⟨w.heap.size,6,none⟩ (.int .i64 T):=⟨_,rfl⟩
   rw [←hw2] at HX2 HZ2 ⊢
   have HC6:=hI hcs6
   clear hw2 hcs6 c6 f6 hT hc htk hwr HX HZ HX1 HZ1 HT
   have hZ2l:=HZ2.out.lt
   have q7:cs6[7]?=some (.slice r.e.A r.e.z.size r.e.c):=by rw [HC6.out,Array.getElem?_setIfInBounds,if_neg (by omega)];exact HQ7.out
   have Q7:=hI q7
   have c7:=HX2.out.at_ 7 q7
   clear q7
   go_upto_region 5 with (go_at_call 62;refine (HCl.out _ HX2.out.b).mono ?_;rintro _ w3 ⟨A,c,rfl,hown,hb⟩;have HX3:=hI (HX2.out.next hb);have HZ3:=hI (HZ2.out.next hb);have HO3:=hI hown;clear hb hown c7;have c7:=HX3.out.at_ 7 Q7.out;have f7:=HX3.out.froz 7)
   have HX4:=hI (HX3.out.set (Nat.le_refl _) 7 (.slice A r.e.z.size c))
   have HZ4:=hI (HZ3.out.far (g2:=w.heap.size) (Nat.le_refl _) (by omega) 7 (.slice A r.e.z.size c))
   have HO4:=hI (qcx (qdh HO3.out (show w.heap.size + 2≤w2.heap.size by omega)) (by omega:w.heap.size < w.heap.size + 2) 7 (.slice A r.e.z.size c))
   obtain ⟨cs7,hcs7⟩:∃ c',c'=(encP { r with ticks:=T,e:=⟨A,c,ageK r.e.z r.e.z.size⟩ }).toArray:=⟨_,rfl⟩
   have hset:cs6.setIfInBounds 7 (.slice A r.e.z.size c)=cs7:=by rw [HC6.out,HCS.out,hcs7];simp [encP,qch]
   rw [hset] at HX4
   obtain ⟨w4,hw4⟩:∃ W,W=w3.setCell ⟨w.heap.size,7,none⟩ (.slice A r.e.z.size c):=⟨_,rfl⟩
   rw [←hw4] at HX4 HZ4 HO4 ⊢
   have HC7:=hI hcs7
   obtain ⟨hsz7,hone7⟩:=rowP hcs7
   have Q77:Hid (cs7[7]?=some (.slice A r.e.z.size c)):=by show _=_;rw [hcs7];simp [encP,qch]
   clear hw4 hset hcs7 c7 f7 HX2 HZ2 HX3 HZ3 HO3 hZ2l HC6
   have c7:=HX4.out.at_ 7 Q77.out
   go_upto_region 6 with fail
   clear c7
   go_loopw [3,20] (fun v i wr=>∃ k:Nat,i=.int .i64 k∧k≤r.e.z.size∧wr.ownsRow (w.heap.size + 2) 58 10 (.slice A r.e.z.size c) r.e.z.size (flatK encE 10 (ageK r.e.z k)).toList∧Hid (BoxG w w.heap.size cs7 35 wr)∧Hid (BoxG w (w.heap.size + 1) qbp 35 wr)) (fun _ i _=>r.e.z.size - (intOf i).toNat)
   case atStart=>exact ⟨0,rfl,Nat.zero_le _,HO4.out,HX4,HZ4⟩
   case round =>
    obtain ⟨k,rfl,hk,hown,HXk,HZk⟩:=hrel
    by_cases hlt:k < r.e.z.size
    ·have kz:(k:Int) < (r.e.z.size:Int):=by omega
     obtain ⟨K,cK,hv,hK1,hK2⟩:=qqh hown (by omega)
     injection hv with v1 v2 v3
     subst v1 v3
     have hek:(ageK r.e.z k)[k]! = r.e.z[k]!:=by rw [qgl _ k hlt,if_neg (by omega)]
     have e1:=own_e hown (qch _ _) hlt 1 (by omega)
     have e7:=own_e hown (qch _ _) hlt 7 (by omega)
     rw [hek] at e1 e7
     have hag:=HAG.out k hlt
     have HNO:=hI (fun (h:qit r.e.z[k]!.ph=false)=>ageK_no hlt h)
     have HYE:=hI (fun (h:qit r.e.z[k]!.ph=true)=>own_age hown rfl hlt h)
     obtain ⟨u,hu⟩:∃ u,r.e.z[k]! = u:=⟨_,rfl⟩
     rw [hu] at e1 e7 hag HNO HYE
     simp only [encE,List.getElem!_cons_zero,List.getElem!_cons_succ] at e1 e7
     have c7:=HXk.out.at_ 7 Q77.out
     have q7:=hown.frozenAt (k * 10 + 7)
     have hwr:IntKind.i64.wrap (u.age + 1)=u.age + 1:=IntWalk.i64_in _ (by omega)
     obtain ⟨ob,hob⟩:∃ o,qit u.ph=o:=⟨_,rfl⟩
     have HO:Hid (∀ W,Calls Tryz.prog 61 #[.int .i64 u.ph] W fun e w'=>e=.returned (.bool ob)∧W=w'):=fun W=>by have:=qhv u.ph W;rw [hob] at this;exact this.mono fun e w' h=>⟨h.1,h.2.symm⟩
     clear hu hek
     cases ob
     ·have HN2:=hI (HNO.out hob)
      clear hob
      go_wp2_with (go_at_call 61;refine (HO.out _).mono ?_;rintro _ _ ⟨rfl,rfl⟩)
      go_roundw
      case rel=>exact ⟨k + 1,by go_num,by omega,by rw [HN2.out];exact hown,HXk,HZk⟩
      case measure=>simp [intOf];omega
     ·have HY2:=hI (HYE.out hob)
      clear hob
      go_upto_region 9 with (go_at_call 61;refine (HO.out _).mono ?_;rintro _ _ ⟨rfl,rfl⟩)
      go_region
      all_goals
       go_wp2
       go_roundw
       case rel=>exact ⟨k + 1,by go_num,by omega,HY2.out,(HXk.out.far (g2:=K) (by omega) (by omega) (k * 10 + 7) (.int .i64 (min (u.age + 1) 1000000))).next (Below.refl _ _).drew,(HZk.out.far (g2:=K) (by omega) (by omega) (k * 10 + 7) (.int .i64 (min (u.age + 1) 1000000))).next (Below.refl _ _).drew⟩
       case measure=>simp [intOf];omega
    ·have hlt':decide ((k:Int) < (r.e.z.size:Int))=false:=decide_eq_false (by omega)
     obtain rfl:k=r.e.z.size:=by omega
     have x1:=HXk.out.box hsz7
     have x2:=HXk.out.rowAt
     have x3:=HZk.out.box (n:=18) rfl
     go_wp2
     refine bodyPost_ret (qds rfl rfl (setRow_heap _ _ _ _ _ _ HZk.out.row) hsz7) rfl ?_
     have hsep:SepR r (w.heap.size + 2) wr { r with ticks:=T,e:=⟨A,c,ageK r.e.z r.e.z.size⟩ }:=sep_age hown
     refine ⟨⟨{ r with ticks:=T,e:=⟨A,c,ageK r.e.z r.e.z.size⟩ },by rw [←HC7.out],Or.inr ⟨HCK.out,by rw [HTT.out],rfl⟩,fun W' hr ha hz=>hsep W' hr (fun j h1 h2=>(ha j (by omega) (by simpa using h2)).trans (setRow_other _ _ j _ (by omega))) (by simpa using hz)⟩,HXk.out.b.trans ⟨rfl,rfl,rfl,by simp,fun j hj=>setRow_other _ _ j _ (by omega)⟩⟩
  ·rw [qhj hc] at HC
   have HCF:Hid (chkR r=false):=by show _=_;simpa using hc
   clear hc
   go_wp2_with (go_at_call 15;refine (HC.out _ HX.out.b).mono ?_;rintro _ w1 ⟨rfl,hb⟩;have HX1:=hI (HX.out.next hb);have HZ1:=hI (HZ.out.next hb);clear hb x1 x2;have x1:=HX1.out.box hsz;have x2:=HX1.out.rowAt;have x3:=HZ1.out.box (n:=18) rfl)
   refine bodyPost_ret (qds rfl rfl (setRow_heap _ _ _ _ _ _ HZ1.out.row) hsz) rfl ?_
   exact ⟨⟨r,by rw [←HCS.out],Or.inl ⟨HCF.out,rfl⟩,SepR.self _ _ _⟩,HX1.out.b.trans ⟨rfl,rfl,rfl,by simp,fun j hj=>setRow_other _ _ j _ (by omega)⟩⟩
 exact hgoal _ hcs
end Go.Proofs.YtlkmagmdhopcjaaGreat
namespace Go.Proofs.YtlkmagmdhopcjaaGreat
open Go.RowKit Go.Sort Go.Lib
set_option maxRecDepth 100000
attribute [local go_sem ↓] qak qai qau
attribute [local go_sem] qao qaj qah qaq qbd qbf
def ofM (e:EN):PM:=⟨if qee e.ph then 5 else 9,0,e.id,if qee e.ph then e.t else 0,0,0,0,e.qu,e.pay,0,0,none,0,#[],none,0,#[],0⟩
set_option maxHeartbeats 8000000 in
theorem qwo (r:RP) (u:EN) (w:World) (h:RdP w r) (hf:FewC r) :
 Calls Tryz.prog 63 #[.agg (encP r).toArray,.agg (encE u).toArray] w fun e w'=>(∃ v,e=.returned v∧(chkR r=true→w'.ownsRow w.heap.size 53 15 v (allO r (ofM u)).length (qlv (allO r (ofM u))))∧(chkR r=false→v=.slice none 0 0))∧Below w.heap.size w w':=by
 have HAll:Hid (∀ W,Below w.heap.size w W→Calls Tryz.prog 64 #[.agg (encP r).toArray,.agg (msgC (ofM u))] W fun e w'=>(∃ v,e=.returned v∧(chkR r=true→w'.ownsRow w.heap.size 53 15 v (allO r (ofM u)).length (qlv (allO r (ofM u))))∧(chkR r=false→v=.slice none 0 0))∧Below W.heap.size W w'):=fun W hb =>
  (qjz r (ofM u) W (h.below hb) hf).mono fun e w' ⟨⟨v,he,h1,h2⟩,hb2⟩=>⟨⟨v,he,fun q=>qdh (h1 q) hb.size,h2⟩,hb2⟩
 obtain ⟨AL,hAL⟩:∃ A,allO r (ofM u)=A:=⟨_,rfl⟩
 rw [hAL] at HAll ⊢
 clear hAL
 obtain ⟨cr,hcr⟩:∃ c,c=chkR r:=⟨_,rfl⟩
 rw [←hcr] at HAll ⊢
 obtain ⟨cs,hcs⟩:∃ cs,cs=(encP r).toArray:=⟨_,rfl⟩
 obtain ⟨hsz,hone⟩:=rowP hcs
 obtain ⟨cm,hcm⟩:∃ cm,cm=msgC (ofM u):=⟨_,rfl⟩
 have hsm:cm.size=14:=by rw [hcm];rfl
 rw [←hcs,←hcm] at HAll
 obtain ⟨sb,hsb⟩:∃ b,qee u.ph=b:=⟨_,rfl⟩
 have HSt:Hid (∀ W,Calls Tryz.prog 144 #[.int .i64 u.ph] W fun e w'=>e=.returned (.bool sb)∧W=w'):=fun W=>by have:=qem u.ph W;rw [hsb] at this;exact this.mono fun e w' h=>⟨h.1,h.2.symm⟩
 have HCM:Hid (cm=#[.int .i64 (if sb then 5 else 9),.int .i64 0,.int .i64 u.id,.int .i64 (if sb then u.t else 0),.int .i64 0,.int .i64 0,.int .i64 0,.int .i64 u.qu,.string u.pay,.int .i64 0,.int .i64 0,.slice none 0 0,.slice none 0 0,.int .i64 0]):=by show _=_;rw [hcm,←hsb];rfl
 clear hcm hsb h hf hcr
 have hgoal:∀ x:Array Value,cs=x→Calls Tryz.prog 63 #[.agg x,.agg (encE u).toArray] w fun e w'=>(∃ v,e=.returned v∧(cr=true→w'.ownsRow w.heap.size 53 15 v AL.length (qlv AL))∧(cr=false→v=.slice none 0 0))∧Below w.heap.size w w':=by
  rintro _ rfl
  simp only [encP] at hcs
  simp only [encE]
  rw [hcs]
  go_enter Tryz.func63,Tryz.ntmps63
  rw [←hcs]
  clear hcs
  go_upto_region 1 with fail
  have HX:=hI (BoxG.fst w cs #[.int .i64 u.id,.int .i64 u.ph,.int .i64 u.qu,.int .i64 u.t,.int .i64 u.bal,.int .i64 u.abal,.int .i64 u.seen,.int .i64 u.age,.string u.pay,.slice u.A u.z.size u.c] 111 58)
  have HE:=hI (BoxG.snd w cs #[.int .i64 u.id,.int .i64 u.ph,.int .i64 u.qu,.int .i64 u.t,.int .i64 u.bal,.int .i64 u.abal,.int .i64 u.seen,.int .i64 u.age,.string u.pay,.slice u.A u.z.size u.c] 111 58)
  obtain ⟨w1,hw1⟩:∃ W,W=((w.alloc (.cells cs 111)).alloc (.cells #[.int .i64 u.id,.int .i64 u.ph,.int .i64 u.qu,.int .i64 u.t,.int .i64 u.bal,.int .i64 u.abal,.int .i64 u.seen,.int .i64 u.age,.string u.pay,.slice u.A u.z.size u.c] 58)):=⟨_,rfl⟩
  rw [←hw1] at HX HE ⊢
  clear hw1
  have d0:=HE.out.at_ 0 (v:=.int .i64 u.id) rfl
  have d2:=HE.out.at_ 2 (v:=.int .i64 u.qu) rfl
  have d8:=HE.out.at_ 8 (v:=.string u.pay) rfl
  go_upto_region 2 with fail
  have HQ:Hid ((w1.alloc (.cells #[.int .i64 9,.int .i64 0,.int .i64 u.id,.int .i64 0,.int .i64 0,.int .i64 0,.int .i64 0,.int .i64 u.qu,.string u.pay,.int .i64 0,.int .i64 0,.slice none 0 0,.slice none 0 0,.int .i64 0] 37)).heap[w1.heap.size]?=some (.cells #[.int .i64 9,.int .i64 0,.int .i64 u.id,.int .i64 0,.int .i64 0,.int .i64 0,.int .i64 0,.int .i64 u.qu,.string u.pay,.int .i64 0,.int .i64 0,.slice none 0 0,.slice none 0 0,.int .i64 0] 37 (0,0))):=heap_alloc_new w1 _
  have HX2:=hI (HX.out.next (bel1 w1 (.cells #[.int .i64 9,.int .i64 0,.int .i64 u.id,.int .i64 0,.int .i64 0,.int .i64 0,.int .i64 0,.int .i64 u.qu,.string u.pay,.int .i64 0,.int .i64 0,.slice none 0 0,.slice none 0 0,.int .i64 0] 37)))
  have HE2:=hI (HE.out.next (bel1 w1 (.cells #[.int .i64 9,.int .i64 0,.int .i64 u.id,.int .i64 0,.int .i64 0,.int .i64 0,.int .i64 0,.int .i64 u.qu,.string u.pay,.int .i64 0,.int .i64 0,.slice none 0 0,.slice none 0 0,.int .i64 0] 37)))
  have hws:=HX.out.lt
  have hwe:=HE.out.lt
  obtain ⟨w2,hw2⟩:∃ W,W=w1.alloc (.cells #[.int .i64 9,.int .i64 0,.int .i64 u.id,.int .i64 0,.int .i64 0,.int .i64 0,.int .i64 0,.int .i64 u.qu,.string u.pay,.int .i64 0,.int .i64 0,.slice none 0 0,.slice none 0 0,.int .i64 0] 37):=⟨_,rfl⟩
  obtain ⟨g,hg⟩:∃ g,w1.heap.size=g:=⟨_,rfl⟩
  rw [←hw2] at HQ HX2 HE2 ⊢
  rw [hg] at HQ hws hwe ⊢
  have HM2:Hid (BoxG w g #[.int .i64 9,.int .i64 0,.int .i64 u.id,.int .i64 0,.int .i64 0,.int .i64 0,.int .i64 0,.int .i64 u.qu,.string u.pay,.int .i64 0,.int .i64 0,.slice none 0 0,.slice none 0 0,.int .i64 0] 37 w2):=hI ⟨HX2.out.b,HQ.out⟩
  clear hw2 hg d0 d2 d8 HX HE HQ
  have d1:=HE2.out.at_ 1 (v:=.int .i64 u.ph) rfl
  cases sb
  ·have e:cm=#[.int .i64 9,.int .i64 0,.int .i64 u.id,.int .i64 0,.int .i64 0,.int .i64 0,.int .i64 0,.int .i64 u.qu,.string u.pay,.int .i64 0,.int .i64 0,.slice none 0 0,.slice none 0 0,.int .i64 0]:=HCM.out
   rw [←e] at HM2
   clear e
   have x1:=HX2.out.box hsz
   have x2:=HX2.out.rowAt
   have x3:=HM2.out.box hsm
   have x4:=HM2.out.rowAt
   go_wp2_with (first
    | (go_at_call 144;refine (HSt.out _).mono ?_;rintro _ _ ⟨rfl,rfl⟩)
    | (go_at_call 64;refine (HAll.out _ HX2.out.b).mono ?_;rintro _ w3 ⟨⟨v,rfl,h1,h2⟩,hb⟩;have H1:=hI h1;have H2:=hI h2;have HB:=hI (qaa HX2.out.b hb);clear h1 h2 hb))
   go_ret
   exact ⟨⟨_,rfl,H1.out,H2.out⟩,HB.out⟩
  ·have e:cm=((#[.int .i64 9,.int .i64 0,.int .i64 u.id,.int .i64 0,.int .i64 0,.int .i64 0,.int .i64 0,.int .i64 u.qu,.string u.pay,.int .i64 0,.int .i64 0,.slice none 0 0,.slice none 0 0,.int .i64 0]:Array Value).setIfInBounds 0 (.int .i64 5)).setIfInBounds 3 (.int .i64 u.t):=HCM.out
   have e':cm=((#[.int .i64 9,.int .i64 0,.int .i64 u.id,.int .i64 0,.int .i64 0,.int .i64 0,.int .i64 0,.int .i64 u.qu,.string u.pay,.int .i64 0,.int .i64 0,.slice none 0 0,.slice none 0 0,.int .i64 0]:Array Value).setIfInBounds 3 (.int .i64 u.t)).setIfInBounds 0 (.int .i64 5):=HCM.out
   have HE0:=hI e
   have HE1:=hI e'
   clear e e'
   have d3:=HE2.out.at_ 3 (v:=.int .i64 u.t) rfl
   have m0:=HM2.out.at_ 0 (v:=.int .i64 9) rfl
   have m3:=HM2.out.at_ 3 (v:=.int .i64 0) rfl
   have f0:=HM2.out.froz 0
   have f3:=HM2.out.froz 3
   go_upto_region 3 with (go_at_call 144;refine (HSt.out _).mono ?_;rintro _ _ ⟨rfl,rfl⟩)
   go_region
   have HM3:=hI (((HM2.out.set (by omega) 0 (.int .i64 5)).set (by omega) 3 (.int .i64 u.t)).next (Below.refl _ _).drew)
   have HX3:=hI (((HX2.out.far (g2:=g) (by omega) (by omega) 0 (.int .i64 5)).far (g2:=g) (by omega) (by omega) 3 (.int .i64 u.t)).next (Below.refl _ _).drew)
   rw [←HE0.out] at HM3
   obtain ⟨w5,hw5⟩:∃ W,W=(((w2.setCell ⟨g,0,none⟩ (.int .i64 5)).setCell ⟨g,3,none⟩ (.int .i64 u.t))).drew:=⟨_,rfl⟩
   rw [←hw5] at HM3 HX3 ⊢
   clear hw5 d1 d3 m0 m3 f0 f3 HE0 HE1 HM2 HX2
   have x1:=HX3.out.box hsz
   have x2:=HX3.out.rowAt
   have x3:=HM3.out.box hsm
   have x4:=HM3.out.rowAt
   go_wp2_with (go_at_call 64;refine (HAll.out _ HX3.out.b).mono ?_;rintro _ w3 ⟨⟨v,rfl,h1,h2⟩,hb⟩;have H1:=hI h1;have H2:=hI h2;have HB:=hI (qaa HX3.out.b hb);clear h1 h2 hb)
   go_ret
   exact ⟨⟨_,rfl,H1.out,H2.out⟩,HB.out⟩
 exact hgoal _ hcs
end Go.Proofs.YtlkmagmdhopcjaaGreat
namespace Go.Proofs.YtlkmagmdhopcjaaGreat
open Go.RowKit Go.Sort Go.Lib
set_option maxRecDepth 100000
def qli (t:TypeId) (v x:Value):Sem Unit:=Instr.storeAt t v x
theorem qlj (ρ:Operand→Value) (dst:Option Tmp) (x y:Operand) (ty:TypeId) (pos:String) (after:Array Edge) (guard:Option (Nat×Bool)) :
 execOp ρ { dst,op:=.store 37 x y,type:=ty,pos,after,guard }=(do qli 37 (ρ x) (ρ y);pure .skip):=rfl
theorem qor (W:World) (g:Nat) (cs:Array Value) (h:qap W g 14=true) (hc:cs.size=14) (h1:qbt cs=true) :
 (qli 37 (.pointer (some ⟨g,0,none⟩)) (.agg cs)).run Tryz.prog W=.ok () (W.setRow g cs):=by
 obtain ⟨t,h2,h3⟩:=qey h
 simp only [qli,Instr.storeAt,Instr.sureAddr,Sem.run_bind,Sem.run_pure,Result.andThen]
 exact run_storeVar_row W g t 37 _ cs h2 (by rw [hc];kernel_rfl) (by rw [h3,hc]) h1
theorem qsr {W:World} {g:Nat} {cs:Array Value} {T:TypeId} (h:W.heap[g]?=some (.cells cs T (0,0))) (hc:cs.size=14):(loadVar 37 ⟨g,0,none⟩).run Tryz.prog W=.ok (.agg cs) W :=
 run_loadVar_row W g T 37 cs (0,0) _ h Tryz.underlying37 rfl (by rw [hc];kernel_rfl)
theorem qlk {fn:Func} {t:Tmp} (hf:fn.results=#[.cell t 37]) {tm:Array Value} {W:World} {g:Nat} {cs:Array Value} {T:TypeId} (hg:tm.getD t undef=.pointer (some ⟨g,0,none⟩)) (h:W.heap[g]?=some (.cells cs T (0,0))) (hc:cs.size=14):(results fn tm).run Tryz.prog W=.ok (.agg cs) W:=by
 have hg2:tm[t]?.getD undef=.pointer (some ⟨g,0,none⟩):=by rw [←Array.getD_eq_getD_getElem?];exact hg
 simp [results,hf,hg2,asAddr,qsr h hc]
theorem rowM {cm:Array Value} {m:PM} (h:cm=msgC m):cm.size=14∧qbt cm=true:=by
 subst h
 exact ⟨rfl,by simp [msgC,Value.oneCell',qbt]⟩
attribute [local go_sem ↓] qak qai qau qlj
attribute [local go_sem] qao qaj qah qaq qbd qbf qor
def qwp (r:RP):Array (Int×Int):=if r.o.z.size≤200 then r.o.z else r.o.z.extract 0 200
structure PrmM (r:RP) (m:PM):Prop where
 h:m.k=10∧m.fr=r.self∧m.id=0∧m.t=0∧m.bal=0∧m.abal=0∧m.ph=0∧m.q=0∧m.pay=⟨#[]⟩∧m.lo=r.floor
 hi:m.hi=if r.o.z.size≤200 then r.clock else r.o.z[200]!.1 - (1:Int)
 ats:m.ats=qwp r
 mks:m.mks=qeh r
 dn:m.dn=r.fr.z[r.self.toNat - 1]!
def prmV (r:RP) (p:Nat) (dn hi:Int) (A:Option Addr) (c:Nat) (z:Array (Int×Int)) (x:RW Int):PM:=⟨10,(p:Int) + 1,0,0,0,0,0,0,⟨#[]⟩,r.floor,hi,A,c,z,x.A,x.c,x.z,dn⟩
theorem prmV_ok {r:RP} {p:Nat} {dn hi:Int} {A:Option Addr} {c:Nat} {z:Array (Int×Int)} {x:RW Int} (hp:r.self=(p:Int) + 1) (hd:r.fr.z[p]! = dn) (hx:x.z=qeh r) (hz:z=qwp r) (hh:hi=if r.o.z.size≤200 then r.clock else r.o.z[200]!.1 - (1:Int)):PrmM r (prmV r p dn hi A c z x) :=
 ⟨⟨rfl,hp.symm,rfl,rfl,rfl,rfl,rfl,rfl,rfl,rfl⟩,hh,hz,hx,by show dn=_;rw [show r.self.toNat - 1=p by omega,hd]⟩
theorem prmV_rd {r:RP} {p:Nat} {dn hi:Int} {A:Option Addr} {c:Nat} {z:Array (Int×Int)} {x:RW Int} {W:World} (ho:RdK qaf 2 W.heap.size W A z) (hx:RdJ W x) (h1:z.size≤1000) (h2:x.z.size≤1000):RdM W (prmV r p dn hi A c z x) :=
 ⟨ho,hx.rd,by show z.size≤1000000;omega,by show x.z.size≤1000000;omega,by show (0:Nat)≤1000000;omega⟩
theorem rdK_pre {B:Nat} {w:World} {A:Option Addr} {z:Array (Int×Int)} (h:RdK qaf 2 B w A z) (n:Nat) (hn:n≤z.size):RdK qaf 2 B w A (z.extract 0 n):=fun h0=>by
 have hs:(z.extract 0 n).size=n:=by simp;omega
 rw [hs] at h0
 obtain ⟨b,off,e,hlt,hc⟩:=h (by omega)
 refine ⟨b,off,e,hlt,fun t ht=>?_⟩
 rw [hs] at ht
 rw [hc t (by omega),get_flatK _ _ _ _ (by omega),get_flatK _ _ _ _ (by rw [hs];omega)]
 congr 2
 rw [getElem!_pos _ (t / 2) (by omega),getElem!_pos _ (t / 2) (by rw [hs];omega)]
 simp
set_option maxHeartbeats 16000000 in
theorem qiy (r:RP) (w:World) (h:RdP w r) (hf:FewC r) (hc:chkR r=true) :
 Calls Tryz.prog 28 #[.agg (encP r).toArray] w fun e w'=>(∃ m:PM,e=.returned (.agg (msgC m))∧PrmM r m∧RdM w' m∧FreshA w.heap.size m.aA∧FreshA w.heap.size m.mA)∧Below w.heap.size w w':=by
 have HC:Hid (∀ W,Below w.heap.size w W→Calls Tryz.prog 15 #[.agg (encP r).toArray] W fun e w'=>e=.returned (.int .i64 0)∧Below W.heap.size W w'):=fun W hb=>by
  have:=qbh r W (h.below hb) hf
  rwa [qcw hc] at this
 have hns:=(qet hc)
 have hfr:=(qat.1 (qip hc)).2.1
 have hclk:=(qga.1 (qfc hc)).2.2.1
 obtain ⟨p,hp⟩:∃ p:Nat,r.self=(p:Int) + 1:=⟨r.self.toNat - 1,by omega⟩
 have hpf:p < r.fr.z.size:=by omega
 obtain ⟨bf,off,hA,hbf,ff⟩:=h.fr.rd (by omega)
 have hdn:=ff p hpf
 have HRD:=hI h
 have HRO:=hI h.o.rd
 have HTB:Hid (200 < r.o.z.size→(0:Int) < r.o.z[200]!.1∧r.o.z[200]!.1≤(1000000:Int)):=fun h2=>by
  have:=hclk r.o.z[200]! (by rw [getElem!_pos _ 200 h2,←Array.getElem_toList h2];exact List.getElem_mem _)
  have h3:=(qga.1 (qfc hc)).1
  omega
 have hof:=hf.o
 have HDN:Hid (∀ W,Below w.heap.size w W→W.cell? ⟨bf,off + p,none⟩=some (.int .i64 r.fr.z[p]!)):=fun W hb=>(hb.cell (p:=⟨bf,off + p,none⟩) hbf).trans hdn
 have hwr:IntKind.i64.wrap (p:Int)=(p:Int):=IntWalk.i64_in _ (by omega)
 have hpz:(p:Int) < (r.fr.z.size:Int):=by omega
 have HCl:Hid (∀ W,Below w.heap.size w W→Calls Tryz.prog 65 #[.slice r.o.A r.o.z.size r.o.c] W fun e w'=>(∃ A c,e=.returned (.slice A r.o.z.size c)∧RdN qaf 2 w' ⟨A,c,r.o.z⟩∧(∀ p,A=some p→W.heap.size≤p.block)∧r.o.z.size≤c)∧Below W.heap.size W w'):=fun W hb =>
  (qfx r.o.A r.o.c r.o.z W (h.o.below hb).rd (by omega)).mono fun e w' ⟨v,he,ho,hb2⟩=>by
    obtain ⟨A,c,rfl,hr,hno,hnw⟩:=qdj ho
    refine ⟨⟨A,c,he,⟨hr,hno⟩,hnw,?_⟩,hb2⟩
    obtain ⟨_,⟨h1,h0⟩ | ⟨g,cap,cur,h1,_,_,hnc,_⟩⟩:=ho
    ·injection h1 with a b c'
     omega
    ·injection h1 with a b c'
     omega
 have HMk:Hid (∀ W,Below w.heap.size w W→Calls Tryz.prog 18 #[.agg (encP r).toArray] W fun e w'=>(∃ x:RW Int,e=.returned (.slice x.A x.z.size x.c)∧x.z=qeh r∧RdJ w' x∧∀ p,x.A=some p→W.heap.size≤p.block)∧Below W.heap.size W w'):=fun W hb =>
  (qkt r W (h.below hb) hf).mono fun e w' ⟨⟨x,he,hx,hr,hn⟩,hb2⟩=>⟨⟨x,he,hx,hr,hn⟩,hb2⟩
 have HMZ:Hid ((qeh r).size≤1000):=by
  show _≤_
  unfold qeh
  rw [if_pos hc,qax]
  have:=hf.k
  omega
 have HOF:=hI hof
 obtain ⟨cs,hcs⟩:∃ cs,cs=(encP r).toArray:=⟨_,rfl⟩
 obtain ⟨hsz,hone⟩:=rowP hcs
 have HCS:=hI hcs
 have HQ2:Hid (cs[2]?=some (.int .i64 ((p:Int) + 1))):=by show _=_;rw [hcs,←hp];rfl
 have HQ3:Hid (cs[3]?=some (.int .i64 r.clock)):=by show _=_;rw [hcs];rfl
 have HQ5:Hid (cs[5]?=some (.int .i64 r.floor)):=by show _=_;rw [hcs];rfl
 have HQ8:Hid (cs[8]?=some (.slice r.o.A r.o.z.size r.o.c)):=by show _=_;rw [hcs];rfl
 have HQ11:Hid (cs[11]?=some (.slice (some ⟨bf,off,none⟩) r.fr.z.size r.fr.c)):=by show _=_;rw [hcs,←hA];rfl
 have HP:=hI hp
 rw [←hcs] at HC HMk
 clear h hf hc hns hfr hclk hp hA ff hdn hof
 have hgoal:∀ x:Array Value,cs=x→Calls Tryz.prog 28 #[.agg x] w fun e w'=>(∃ m:PM,e=.returned (.agg (msgC m))∧PrmM r m∧RdM w' m∧FreshA w.heap.size m.aA∧FreshA w.heap.size m.mA)∧Below w.heap.size w w':=by
  rintro _ rfl
  simp only [encP] at hcs
  rw [hcs]
  go_enter Tryz.func28,Tryz.ntmps28
  rw [←hcs]
  clear hcs
  go_upto_region 1 with fail
  have HX:=hI (BoxG.fst w cs #[.int .i64 0,.int .i64 0,.int .i64 0,.int .i64 0,.int .i64 0,.int .i64 0,.int .i64 0,.int .i64 0,.string ⟨#[]⟩,.int .i64 0,.int .i64 0,.slice none 0 0,.slice none 0 0,.int .i64 0] 35 37)
  have HZ:=hI (BoxG.snd w cs #[.int .i64 0,.int .i64 0,.int .i64 0,.int .i64 0,.int .i64 0,.int .i64 0,.int .i64 0,.int .i64 0,.string ⟨#[]⟩,.int .i64 0,.int .i64 0,.slice none 0 0,.slice none 0 0,.int .i64 0] 35 37)
  have x1:=HX.out.box hsz
  have x2:=HX.out.rowAt
  go_upto_region 3 with (go_at_call 15;refine (HC.out _ HX.out.b).mono ?_;rintro _ w1 ⟨rfl,hb⟩;have HX1:=hI (HX.out.next hb);have HZ1:=hI (HZ.out.next hb);clear hb x1 x2)
  clear HX HZ HC
  obtain ⟨dn,hdn⟩:∃ d,r.fr.z[p]! = d:=⟨_,rfl⟩
  rw [hdn] at HDN
  have HDE:=hI hdn
  clear hdn
  have KS:Hid (∀ W,Below w1.heap.size w1 W→W.cell? ⟨w.heap.size,2,none⟩=some (.int .i64 ((p:Int) + 1))∧W.cell? ⟨w.heap.size,5,none⟩=some (.int .i64 r.floor)∧W.cell? ⟨w.heap.size,3,none⟩=some (.int .i64 r.clock)∧W.cell? ⟨w.heap.size,8,none⟩=some (.slice r.o.A r.o.z.size r.o.c)∧W.cell? ⟨w.heap.size,11,none⟩=some (.slice (some ⟨bf,off,none⟩) r.fr.z.size r.fr.c)∧W.cell? ⟨bf,off + p,none⟩=some (.int .i64 dn)∧qap W w.heap.size 18=true∧rowAt W w.heap.size=cs):=fun W hb=>by
   have hx:=HX1.out.next hb
   exact ⟨hx.at_ 2 HQ2.out,hx.at_ 5 HQ5.out,hx.at_ 3 HQ3.out,hx.at_ 8 HQ8.out,hx.at_ 11 HQ11.out,HDN.out W hx.b,hx.box hsz,hx.rowAt⟩
  go_cut [3] from 8 to 26 (fun v3 wx=>∃ (g:Nat) (A:Option Addr) (c:Nat) (x:RW Int),v3=.pointer (some ⟨g,0,none⟩)∧Hid (x.z=qeh r)∧Hid (RdN qaf 2 wx ⟨A,c,r.o.z⟩)∧Hid (RdJ wx x)∧Hid (((∀ q,A=some q→w1.heap.size≤q.block)∧(0 < r.o.z.size→∀ q,A=some q→q.block≠g))∧((∀ q,x.A=some q→w1.heap.size≤q.block)∧(0 < x.z.size→∀ q,x.A=some q→q.block≠g))∧r.o.z.size≤c∧w1.heap.size≤g)∧Hid (wx.heap[g]?=some (.cells (msgC (prmV r p dn r.clock A c r.o.z x)) 37 (0,0)))∧Hid (Below w1.heap.size w1 wx))
  case first =>
   refine qcz (S:=fun W=>W.cell? ⟨w.heap.size,2,none⟩=some (.int .i64 ((p:Int) + 1))∧W.cell? ⟨w.heap.size,5,none⟩=some (.int .i64 r.floor)∧W.cell? ⟨w.heap.size,3,none⟩=some (.int .i64 r.clock)∧W.cell? ⟨w.heap.size,8,none⟩=some (.slice r.o.A r.o.z.size r.o.c)∧W.cell? ⟨w.heap.size,11,none⟩=some (.slice (some ⟨bf,off,none⟩) r.fr.z.size r.fr.c)∧W.cell? ⟨bf,off + p,none⟩=some (.int .i64 dn)∧qap W w.heap.size 18=true∧rowAt W w.heap.size=cs) (by kernel_rfl) ?_
   have hb1:Below w1.heap.size w1 w1.drew:=(Below.refl _ _).drew
   have hS:=KS.out _ hb1
   refine tkF 8 0 rfl rfl hS ?_
   simp only [Act.put,sA,s0,s1]
   refine tkF 9 1 rfl rfl hS ?_
   simp only [Act.put,sA,s0,s1]
   refine tkF 10 2 rfl rfl hS ?_
   simp only [Act.put,sA,s0,s1]
   refine tkF 11 3 rfl rfl hS ?_
   simp only [Act.put,sA,s0,s1]
   refine tkF 12 4 rfl rfl hS ?_
   simp only [Act.put,sA,s0,s1]
   refine tkF 13 5 rfl rfl hS ?_
   simp only [Act.put,sA,s0,s1]
   refine tkF 14 6 rfl rfl hS ?_
   simp only [Act.put,sA,s0,s1]
   refine tkF 15 7 rfl rfl hS ?_
   simp only [Act.put,sA,s0,s1]
   refine qil (some 17) (i:=9) (v:=.agg cs) rfl rfl (by kernel_rfl) (by kernel_rfl) (by kernel_rfl) (fun _ _ _ h=>h) (Or.inl ⟨by rfl,fun W hW=>qez rfl hW.2.2.2.2.2.2.1 hW.2.2.2.2.2.2.2⟩) hS ?_
   simp only [Act.put,sA,s0,s1]
   refine tkF 19 11 rfl rfl hS ?_
   simp only [Act.put,sA,s0,s1]
   refine tkF 20 12 rfl rfl hS ?_
   simp only [Act.put,sA,s0,s1]
   refine tkF 21 13 rfl rfl hS ?_
   simp only [Act.put,sA,s0,s1]
   refine tkF 22 14 rfl rfl hS ?_
   simp only [Act.put,sA,s0,s1]
   refine tkF 23 15 rfl rfl hS ?_
   simp only [Act.put,sA,s0,s1]
   refine tkF 24 16 rfl rfl hS ?_
   simp only [Act.put,sA,s0,s1]
   refine tkF 25 17 rfl rfl hS ?_
   simp only [Act.put,sA,s0,s1]
   refine qdt (rs:=[8,19]) (by kernel_rfl) (by simp) (AllReadyE.cons rfl (fun K' hK'=>?_) (AllReadyE.cons rfl (fun K' hK'=>?_) AllReadyE.nil))
   ·go_simp
    refine (HCl.out _ (qaa HX1.out.b hb1)).mono ?_
    rintro _ w2 ⟨⟨A,c,rfl,hrd,hnew,hcap⟩,hb⟩
    have hb2:Below w1.heap.size w1 w2:=qaa hb1 hb
    have HOA:=hI hrd
    have HCP:=hI hcap
    refine hK'.out _ _ (KS.out _ hb2) (fun _=>?_)
    have HAN:Hid (∀ q,A=some q→w1.heap.size≤q.block):=fun q hq=>Nat.le_trans hb1.size (hnew q hq)
    clear hK' K' hS hrd hnew hb hcap
    have hS:=KS.out _ hb2
    refine qdt (rs:=[10,19]) (by kernel_rfl) (by simp) (AllReadyE.cons rfl (fun K' hK'=>?_) (AllReadyE.cons rfl (fun K' hK'=>?_) AllReadyE.nil))
    ·go_simp
     refine (HMk.out _ (qaa HX1.out.b hb2)).mono ?_
     rintro _ w3 ⟨⟨x,rfl,hxz,hxr,hxn⟩,hb⟩
     have hb3:Below w1.heap.size w1 w3:=qaa hb2 hb
     have HXZ:=hI hxz
     have HXR:=hI hxr
     refine hK'.out _ _ (KS.out _ hb3) (fun _=>?_)
     have HOA3:=hI (HOA.out.below hb)
     have HXN:Hid (∀ q,x.A=some q→w1.heap.size≤q.block):=fun q hq=>Nat.le_trans hb2.size (hxn q hq)
     clear hK' K' hS hxz hxr hxn hb
     have hS:=KS.out _ hb3
     obtain ⟨cm,hcm⟩:∃ cm,cm=msgC (prmV r p dn r.clock A c r.o.z x):=⟨_,rfl⟩
     obtain ⟨hsm,h1m⟩:=rowM hcm
     have HCM:Hid (cm=#[.int .i64 10,.int .i64 ((p:Int) + 1),.int .i64 0,.int .i64 0,.int .i64 0,.int .i64 0,.int .i64 0,.int .i64 0,.string ⟨#[]⟩,.int .i64 r.floor,.int .i64 r.clock,.slice A r.o.z.size c,.slice x.A x.z.size x.c,.int .i64 dn]):=hcm
     have HCM2:=hI hcm
     clear hcm
     refine qil (some 26) (i:=18) (v:=.agg cm) rfl rfl (by kernel_rfl) (by kernel_rfl) (by kernel_rfl) (fun _ _ _ h=>h) (Or.inl ⟨by rfl,fun W hW=>by rw [HCM.out];go_simp⟩) hS ?_
     simp only [Act.put,sA,s0,s1]
     refine rdy1 19 rfl (fun K hK=>?_)
     go_simp
     refine hK.out _ _ (KS.out _ (qab hb3 _)) (fun _=>?_)
     clear hK K hS
     have HQ:Hid ((w3.alloc (.cells #[.int .i64 0,.int .i64 0,.int .i64 0,.int .i64 0,.int .i64 0,.int .i64 0,.int .i64 0,.int .i64 0,.string ⟨#[]⟩,.int .i64 0,.int .i64 0,.slice none 0 0,.slice none 0 0,.int .i64 0] 37)).heap[w3.heap.size]?=some (.cells #[.int .i64 0,.int .i64 0,.int .i64 0,.int .i64 0,.int .i64 0,.int .i64 0,.int .i64 0,.int .i64 0,.string ⟨#[]⟩,.int .i64 0,.int .i64 0,.slice none 0 0,.slice none 0 0,.int .i64 0] 37 (0,0))):=heap_alloc_new w3 _
     have HBW:Hid (Below w1.heap.size w1 (w3.alloc (.cells #[.int .i64 0,.int .i64 0,.int .i64 0,.int .i64 0,.int .i64 0,.int .i64 0,.int .i64 0,.int .i64 0,.string ⟨#[]⟩,.int .i64 0,.int .i64 0,.slice none 0 0,.slice none 0 0,.int .i64 0] 37))):=qab hb3 _
     have HOW:=hI (HOA3.out.below (bel1 w3 (.cells #[.int .i64 0,.int .i64 0,.int .i64 0,.int .i64 0,.int .i64 0,.int .i64 0,.int .i64 0,.int .i64 0,.string ⟨#[]⟩,.int .i64 0,.int .i64 0,.slice none 0 0,.slice none 0 0,.int .i64 0] 37)))
     have HXW:=hI (HXR.out.below (bel1 w3 (.cells #[.int .i64 0,.int .i64 0,.int .i64 0,.int .i64 0,.int .i64 0,.int .i64 0,.int .i64 0,.int .i64 0,.string ⟨#[]⟩,.int .i64 0,.int .i64 0,.slice none 0 0,.slice none 0 0,.int .i64 0] 37)))
     obtain ⟨g,hg⟩:∃ g,w3.heap.size=g:=⟨_,rfl⟩
     have HNN:Hid (((∀ q,A=some q→w1.heap.size≤q.block)∧(0 < r.o.z.size→∀ q,A=some q→q.block≠g))∧((∀ q,x.A=some q→w1.heap.size≤q.block)∧(0 < x.z.size→∀ q,x.A=some q→q.block≠g))∧r.o.z.size≤c∧w1.heap.size≤g):=⟨⟨HAN.out,fun h0 q hq=>by obtain ⟨b,of,e,hlt,_⟩:=HOA3.out.rd h0;have e':A=some ⟨b,of,none⟩:=e;rw [hq] at e';injection e' with e';have:b < w3.heap.size:=hlt;rw [e',←hg];show b≠_;omega⟩,⟨HXN.out,fun h0 q hq=>by obtain ⟨b,of,e,hlt,_⟩:=HXR.out.rd h0;have e':x.A=some ⟨b,of,none⟩:=e;rw [hq] at e';injection e' with e';have:b < w3.heap.size:=hlt;rw [e',←hg];show b≠_;omega⟩,HCP.out,by rw [←hg];exact hb3.size⟩
     obtain ⟨W5,hW5⟩:∃ W,W=w3.alloc (.cells #[.int .i64 0,.int .i64 0,.int .i64 0,.int .i64 0,.int .i64 0,.int .i64 0,.int .i64 0,.int .i64 0,.string ⟨#[]⟩,.int .i64 0,.int .i64 0,.slice none 0 0,.slice none 0 0,.int .i64 0] 37):=⟨_,rfl⟩
     rw [←hW5] at HQ HBW HOW HXW ⊢
     rw [hg] at HQ ⊢
     clear hW5 hg HOA3 HXR hb3 hb2 HOA
     have hS:=KS.out _ HBW.out
     have hbx:=qby W5 g _ _ cm HQ.out (by rw [hsm];rfl) h1m
     refine rdyL 20 rfl (fun K hK=>?_)
     go_simp
     refine hK.out _ _ ?_
     clear hK K hS hbx
     refine qca (by kernel_rfl) ?_ _
     go_wp2
     go_meet
     have hfar:∀ b:Nat,b≠g→(W5.setRow g cm).heap[b]?=W5.heap[b]?:=fun b hb=>setRow_other _ _ b _ hb
     have hsize:(W5.setRow g cm).heap.size=W5.heap.size:=by simp
     refine ⟨g,A,c,x,rfl,HXZ,HOW.out.farG hsize HNN.out.1.2 hfar,HXW.out.farG hsize HNN.out.2.1.2 hfar,HNN,?_,?_⟩
     ·show _=_;rw [←HCM2.out];exact setRow_heap _ _ _ _ _ _ HQ.out
     ·exact HBW.out.trans ⟨rfl,rfl,rfl,by simp,fun j hj=>setRow_other _ _ j _ (by have:=HNN.out.2.2.2;omega)⟩
    ·go_simp
     refine hK'.out _ _ (KS.out _ (qab hb2 _)) (fun _=>?_)
     clear hK' K' hS
     refine rdy1 10 rfl (fun K hK=>?_)
     go_simp
     refine (HMk.out _ (qaa HX1.out.b (qab hb2 _))).mono ?_
     rintro _ w3 ⟨⟨x,rfl,hxz,hxr,hxn⟩,hb⟩
     have hb3:Below w1.heap.size w1 w3:=qaa (qab hb2 _) hb
     have HXZ:=hI hxz
     have HXR:=hI hxr
     refine hK.out _ _ (KS.out _ hb3) (fun _=>?_)
     clear hK K
     have HOW:=hI ((HOA.out.below (bel1 w2 _)).below hb)
     have HXN:Hid (∀ q,x.A=some q→w1.heap.size≤q.block):=fun q hq=>Nat.le_trans (qab hb2 _).size (hxn q hq)
     obtain ⟨g,hg⟩:∃ g,w2.heap.size=g:=⟨_,rfl⟩
     have HQ:Hid (w3.heap[g]?=some (.cells #[.int .i64 0,.int .i64 0,.int .i64 0,.int .i64 0,.int .i64 0,.int .i64 0,.int .i64 0,.int .i64 0,.string ⟨#[]⟩,.int .i64 0,.int .i64 0,.slice none 0 0,.slice none 0 0,.int .i64 0] 37 (0,0))):=by show _=_;rw [←hg];exact (hb.block w2.heap.size (by simp)).trans (heap_alloc_new w2 _)
     have HNN:Hid (((∀ q,A=some q→w1.heap.size≤q.block)∧(0 < r.o.z.size→∀ q,A=some q→q.block≠g))∧((∀ q,x.A=some q→w1.heap.size≤q.block)∧(0 < x.z.size→∀ q,x.A=some q→q.block≠g))∧r.o.z.size≤c∧w1.heap.size≤g):=⟨⟨HAN.out,fun h0 q hq=>by obtain ⟨b,of,e,hlt,_⟩:=HOA.out.rd h0;have e':A=some ⟨b,of,none⟩:=e;rw [hq] at e';injection e' with e';have:b < w2.heap.size:=hlt;rw [e',←hg];show b≠_;omega⟩,⟨HXN.out,fun h0 q hq=>by have:=hxn q hq;simp at this;omega⟩,HCP.out,by rw [←hg];exact hb2.size⟩
     rw [hg]
     have HBW:=hI hb3
     have HXW:=HXR
     clear hg hb hxz hxr hxn HXR HOA hb2 hb3
     have hS:=KS.out _ HBW.out
     obtain ⟨cm,hcm⟩:∃ cm,cm=msgC (prmV r p dn r.clock A c r.o.z x):=⟨_,rfl⟩
     obtain ⟨hsm,h1m⟩:=rowM hcm
     have HCM:Hid (cm=#[.int .i64 10,.int .i64 ((p:Int) + 1),.int .i64 0,.int .i64 0,.int .i64 0,.int .i64 0,.int .i64 0,.int .i64 0,.string ⟨#[]⟩,.int .i64 r.floor,.int .i64 r.clock,.slice A r.o.z.size c,.slice x.A x.z.size x.c,.int .i64 dn]):=hcm
     have HCM2:=hI hcm
     clear hcm
     refine qil (some 26) (i:=18) (v:=.agg cm) rfl rfl (by kernel_rfl) (by kernel_rfl) (by kernel_rfl) (fun _ _ _ h=>h) (Or.inl ⟨by rfl,fun W hW=>by rw [HCM.out];go_simp⟩) hS ?_
     simp only [Act.put,sA,s0,s1]
     have hbx:=qby w3 g _ _ cm HQ.out (by rw [hsm];rfl) h1m
     refine rdyL 20 rfl (fun K hK=>?_)
     go_simp
     refine hK.out _ _ ?_
     clear hK K hS hbx
     refine qca (by kernel_rfl) ?_ _
     go_wp2
     go_meet
     have hfar:∀ b:Nat,b≠g→(w3.setRow g cm).heap[b]?=w3.heap[b]?:=fun b hb=>setRow_other _ _ b _ hb
     have hsize:(w3.setRow g cm).heap.size=w3.heap.size:=by simp
     refine ⟨g,A,c,x,rfl,HXZ,HOW.out.farG hsize HNN.out.1.2 hfar,HXW.out.farG hsize HNN.out.2.1.2 hfar,HNN,?_,?_⟩
     ·show _=_;rw [←HCM2.out];exact setRow_heap _ _ _ _ _ _ HQ.out
     ·exact HBW.out.trans ⟨rfl,rfl,rfl,by simp,fun j hj=>setRow_other _ _ j _ (by have:=HNN.out.2.2.2;omega)⟩
   ·go_simp
    refine hK'.out _ _ (KS.out _ (qab hb1 _)) (fun _=>?_)
    clear hK' K' hS
    refine rdy1 8 rfl (fun K hK=>?_)
    go_simp
    refine (HCl.out _ (qaa HX1.out.b (qab hb1 _))).mono ?_
    rintro _ w2 ⟨⟨A,c,rfl,hrd,hnew,hcap⟩,hb⟩
    have hb2:Below w1.heap.size w1 w2:=qaa (qab hb1 _) hb
    have HOA:=hI hrd
    have HCP:=hI hcap
    refine hK.out _ _ (KS.out _ hb2) (fun _=>?_)
    clear hK K
    have HAN:Hid (∀ q,A=some q→w1.heap.size≤q.block):=fun q hq=>Nat.le_trans (qab hb1 _).size (hnew q hq)
    obtain ⟨g,hg⟩:∃ g,w1.heap.size=g:=⟨_,rfl⟩
    have HQ2:Hid (w2.heap[g]?=some (.cells #[.int .i64 0,.int .i64 0,.int .i64 0,.int .i64 0,.int .i64 0,.int .i64 0,.int .i64 0,.int .i64 0,.string ⟨#[]⟩,.int .i64 0,.int .i64 0,.slice none 0 0,.slice none 0 0,.int .i64 0] 37 (0,0))):=by show _=_;rw [←hg];exact (hb.block w1.drew.heap.size (by simp)).trans (heap_alloc_new w1.drew _)
    have hgs:g < w2.heap.size:=qal HQ2.out
    have HAG:Hid (∀ q,A=some q→q.block≠g):=fun q hq=>by have:=hnew q hq;simp at this;omega
    rw [hg]
    clear hb hrd hnew hcap
    refine rdy1 10 rfl (fun K hK=>?_)
    go_simp
    refine (HMk.out _ (qaa HX1.out.b hb2)).mono ?_
    rintro _ w3 ⟨⟨x,rfl,hxz,hxr,hxn⟩,hb⟩
    have hb3:Below w1.heap.size w1 w3:=qaa hb2 hb
    have HXZ:=hI hxz
    have HXR:=hI hxr
    refine hK.out _ _ (KS.out _ hb3) (fun _=>?_)
    clear hK K
    have HOW:=hI (HOA.out.below hb)
    have HXN:Hid (∀ q,x.A=some q→w1.heap.size≤q.block):=fun q hq=>Nat.le_trans hb2.size (hxn q hq)
    have HQ:Hid (w3.heap[g]?=some (.cells #[.int .i64 0,.int .i64 0,.int .i64 0,.int .i64 0,.int .i64 0,.int .i64 0,.int .i64 0,.int .i64 0,.string ⟨#[]⟩,.int .i64 0,.int .i64 0,.slice none 0 0,.slice none 0 0,.int .i64 0] 37 (0,0))):=hI ((hb.block g hgs).trans HQ2.out)
    have HNN:Hid (((∀ q,A=some q→w1.heap.size≤q.block)∧(0 < r.o.z.size→∀ q,A=some q→q.block≠g))∧((∀ q,x.A=some q→w1.heap.size≤q.block)∧(0 < x.z.size→∀ q,x.A=some q→q.block≠g))∧r.o.z.size≤c∧w1.heap.size≤g):=⟨⟨HAN.out,fun h0 q hq=>HAG.out q hq⟩,⟨HXN.out,fun h0 q hq=>by have:=hxn q hq;omega⟩,HCP.out,by omega⟩
    have HBW:=hI hb3
    have HXW:=HXR
    clear hg hb hxz hxr hxn HXR HOA HQ2 hgs HAG hb2 hb3
    have hS:=KS.out _ HBW.out
    obtain ⟨cm,hcm⟩:∃ cm,cm=msgC (prmV r p dn r.clock A c r.o.z x):=⟨_,rfl⟩
    obtain ⟨hsm,h1m⟩:=rowM hcm
    have HCM:Hid (cm=#[.int .i64 10,.int .i64 ((p:Int) + 1),.int .i64 0,.int .i64 0,.int .i64 0,.int .i64 0,.int .i64 0,.int .i64 0,.string ⟨#[]⟩,.int .i64 r.floor,.int .i64 r.clock,.slice A r.o.z.size c,.slice x.A x.z.size x.c,.int .i64 dn]):=hcm
    have HCM2:=hI hcm
    clear hcm
    refine qil (some 26) (i:=18) (v:=.agg cm) rfl rfl (by kernel_rfl) (by kernel_rfl) (by kernel_rfl) (fun _ _ _ h=>h) (Or.inl ⟨by rfl,fun W hW=>by rw [HCM.out];go_simp⟩) hS ?_
    simp only [Act.put,sA,s0,s1]
    have hbx:=qby w3 g _ _ cm HQ.out (by rw [hsm];rfl) h1m
    refine rdyL 20 rfl (fun K hK=>?_)
    go_simp
    refine hK.out _ _ ?_
    clear hK K hS hbx
    refine qca (by kernel_rfl) ?_ _
    go_wp2
    go_meet
    have hfar:∀ b:Nat,b≠g→(w3.setRow g cm).heap[b]?=w3.heap[b]?:=fun b hb=>setRow_other _ _ b _ hb
    have hsize:(w3.setRow g cm).heap.size=w3.heap.size:=by simp
    refine ⟨g,A,c,x,rfl,HXZ,HOW.out.farG hsize HNN.out.1.2 hfar,HXW.out.farG hsize HNN.out.2.1.2 hfar,HNN,?_,?_⟩
    ·show _=_;rw [←HCM2.out];exact setRow_heap _ _ _ _ _ _ HQ.out
    ·exact HBW.out.trans ⟨rfl,rfl,rfl,by simp,fun j hj=>setRow_other _ _ j _ (by have:=HNN.out.2.2.2;omega)⟩
  case rest =>
   obtain ⟨g,A,c,x,rfl,HXZ,HOW,HXW,HNN,HG,HB⟩:=hcut
   have HXc:=hI (HX1.out.next HB.out)
   have HZc:=hI (HZ1.out.next HB.out)
   have hlz:=HZ1.out.lt
   have hw1:=HB.out.size
   have hgw:=HNN.out.2.2.2
   have c8:=HXc.out.at_ 8 HQ8.out
   by_cases hl:r.o.z.size≤200
   ·have hl1:decide (200 < (r.o.z.size:Int))=false:=decide_eq_false (by omega)
    have HTO:Hid (r.o.z=qwp r):=by show _=_;unfold qwp;rw [if_pos hl]
    have HTH:Hid (r.clock=if r.o.z.size≤200 then r.clock else r.o.z[200]!.1 - (1:Int)):=by show _=_;rw [if_pos hl]
    obtain ⟨cm,hcm⟩:∃ cm,cm=msgC (prmV r p dn r.clock A c r.o.z x):=⟨_,rfl⟩
    obtain ⟨hsm,h1m⟩:=rowM hcm
    rw [←hcm] at HG
    have HCM:=hI hcm
    have x3:=qbl HG.out hsm
    have x4:=qcf HG.out
    have x5:=HZc.out.box (n:=14) rfl
    clear hcm
    go_wp2
    refine bodyPost_ret (qlk rfl rfl (setRow_heap _ _ _ _ _ _ HZc.out.row) hsm) rfl ?_
    refine ⟨⟨_,by rw [HCM.out],prmV_ok HP.out HDE.out HXZ.out HTO.out HTH.out,prmV_rd ?_ ?_ HOF.out (by rw [HXZ.out];exact HMZ.out),fun q hq=>Nat.le_trans HX1.out.b.size (HNN.out.1.1 q hq),fun q hq=>Nat.le_trans HX1.out.b.size (HNN.out.2.1.1 q hq)⟩,HXc.out.b.trans ⟨rfl,rfl,rfl,by simp,fun j hj=>setRow_other _ _ j _ (by omega)⟩⟩
    ·refine (HOW.out.farG (g:=w.heap.size + 1) (by simp) (fun _ q hq=>by have:=HNN.out.1.1 q hq;omega) (fun b hb=>setRow_other _ _ b _ hb)).rd
    ·refine HXW.out.farG (g:=w.heap.size + 1) (by simp) (fun _ q hq=>by have:=HNN.out.2.1.1 q hq;omega) (fun b hb=>setRow_other _ _ b _ hb)
   ·have hl1:decide (200 < (r.o.z.size:Int))=true:=decide_eq_true (by omega)
    have hl2:decide ((200:Int) < (r.o.z.size:Int))=true:=hl1
    obtain ⟨T2,hT2⟩:∃ t,r.o.z[200]!.1=t:=⟨_,rfl⟩
    have htb:=HTB.out (by omega)
    rw [hT2] at htb
    have HTO:Hid (r.o.z.extract 0 200=qwp r):=by show _=_;unfold qwp;rw [if_neg hl]
    have HTH:Hid (T2 - (1:Int)=if r.o.z.size≤200 then r.clock else r.o.z[200]!.1 - (1:Int)):=by show _=_;rw [if_neg hl,hT2]
    obtain ⟨bo,oo,hOA,hob,fo⟩:=(HRO.out.below HXc.out.b).at_ (i:=200) (by omega)
    have fo0:=fo 0 (by omega)
    simp only [qaf,List.getElem!_cons_zero,Nat.add_zero,Nat.reduceMul] at fo0
    rw [hT2] at fo0
    rw [hOA] at c8
    obtain ⟨b2,o2,hA2,_,_⟩:=HOW.out.rd (show 0 < r.o.z.size by omega)
    have hA2':A=some ⟨b2,o2,none⟩:=hA2
    subst hA2'
    have hcap:200≤c:=by have:=HNN.out.2.2.1;omega
    have g11:wc.cell? ⟨g,11,none⟩=some (.slice (some ⟨b2,o2,none⟩) r.o.z.size c):=(cell_of_row wc g 11 _ _ (0,0) HG.out).trans rfl
    have g10:wc.cell? ⟨g,10,none⟩=some (.int .i64 r.clock):=(cell_of_row wc g 10 _ _ (0,0) HG.out).trans rfl
    have f11:wc.frozen? ⟨g,11,none⟩=false:=by have:=HG.out;simp [World.frozen?,this]
    have f10:wc.frozen? ⟨g,10,none⟩=false:=by have:=HG.out;simp [World.frozen?,this]
    have hwt:IntKind.i64.wrap (T2 - 1)=T2 - 1:=IntWalk.i64_in _ (by omega)
    have hsz2:200≤r.o.z.size:=by omega
    clear hA2 fo hT2 hOA
    go_wp2
    go_region
    have HM0:BoxG w1 g (msgC (prmV r p dn r.clock (some ⟨b2,o2,none⟩) c r.o.z x)) 37 wc:=⟨HB.out,HG.out⟩
    have HM5:=hI (((HM0.set hgw 11 (.slice (some ⟨b2,o2,none⟩) 200 c)).set hgw 10 (.int .i64 (T2 - (1:Int)))).next (Below.refl _ _).drew)
    have hfar:∀ b:Nat,b≠g→(((wc.setCell ⟨g,11,none⟩ (.slice (some ⟨b2,o2,none⟩) 200 c)).setCell ⟨g,10,none⟩ (.int .i64 (T2 - (1:Int)))).drew).heap[b]?=wc.heap[b]?:=fun b hb=>(Below.heap_setCell _ _ _ _ hb).trans (Below.heap_setCell _ _ _ _ hb)
    have hs5:(((wc.setCell ⟨g,11,none⟩ (.slice (some ⟨b2,o2,none⟩) 200 c)).setCell ⟨g,10,none⟩ (.int .i64 (T2 - (1:Int)))).drew).heap.size=wc.heap.size:=by simp
    obtain ⟨W5,hW5⟩:∃ W,W=(((wc.setCell ⟨g,11,none⟩ (.slice (some ⟨b2,o2,none⟩) 200 c)).setCell ⟨g,10,none⟩ (.int .i64 (T2 - (1:Int)))).drew):=⟨_,rfl⟩
    rw [←hW5] at HM5 hfar hs5 ⊢
    have HF5:=hI hfar
    clear hW5 hfar fo0 c8 g11 g10 f11 f10
    obtain ⟨cm,hcm⟩:∃ cm,cm=msgC (prmV r p dn (T2 - (1:Int)) (some ⟨b2,o2,none⟩) c (r.o.z.extract 0 200) x):=⟨_,rfl⟩
    obtain ⟨hsm,h1m⟩:=rowM hcm
    have hes:(r.o.z.extract 0 200).size=200:=by simp;omega
    have heq:((msgC (prmV r p dn r.clock (some ⟨b2,o2,none⟩) c r.o.z x)).setIfInBounds 11 (.slice (some ⟨b2,o2,none⟩) 200 c)).setIfInBounds 10 (.int .i64 (T2 - (1:Int)))=cm:=by
     rw [hcm]
     simp [msgC,prmV,hes]
    rw [heq] at HM5
    have HCM:=hI hcm
    have HZ5:Hid (BoxG w (w.heap.size + 1) #[.int .i64 0,.int .i64 0,.int .i64 0,.int .i64 0,.int .i64 0,.int .i64 0,.int .i64 0,.int .i64 0,.string ⟨#[]⟩,.int .i64 0,.int .i64 0,.slice none 0 0,.slice none 0 0,.int .i64 0] 37 W5):=⟨qaa HX1.out.b HM5.out.b,(HF5.out _ (by omega)).trans HZc.out.row⟩
    have HO5:=hI (HOW.out.farG hs5 HNN.out.1.2 HF5.out)
    have HX5:=hI (HXW.out.farG hs5 HNN.out.2.1.2 HF5.out)
    have x3:=HM5.out.box hsm
    have x4:=HM5.out.rowAt
    have x5:=HZ5.out.box (n:=14) rfl
    clear hcm heq hes HF5 hs5
    go_wp2
    refine bodyPost_ret (qlk rfl rfl (setRow_heap _ _ _ _ _ _ HZ5.out.row) hsm) rfl ?_
    refine ⟨⟨_,by rw [HCM.out],prmV_ok HP.out HDE.out HXZ.out HTO.out HTH.out,prmV_rd ?_ ?_ (by simp;omega) (by rw [HXZ.out];exact HMZ.out),fun q hq=>Nat.le_trans HX1.out.b.size (HNN.out.1.1 q hq),fun q hq=>Nat.le_trans HX1.out.b.size (HNN.out.2.1.1 q hq)⟩,HZ5.out.b.trans ⟨rfl,rfl,rfl,by simp,fun j hj=>setRow_other _ _ j _ (by omega)⟩⟩
    ·exact rdK_pre (HO5.out.farG (g:=w.heap.size + 1) (by simp) (fun _ q hq=>by have:=HNN.out.1.1 q hq;omega) (fun b hb=>setRow_other _ _ b _ hb)).rd 200 hsz2
    ·refine HX5.out.farG (g:=w.heap.size + 1) (by simp) (fun _ q hq=>by have:=HNN.out.2.1.1 q hq;omega) (fun b hb=>setRow_other _ _ b _ hb)
 exact hgoal _ hcs
end Go.Proofs.YtlkmagmdhopcjaaGreat
namespace Go.Proofs.YtlkmagmdhopcjaaGreat
open Go.RowKit Go.Sort Go.Lib
set_option maxRecDepth 100000
theorem qik {w:World} {B:Nat} {e:TypeId} {v:Value} {l:List OU} (h:w.ownsRow B e 15 v l.length (qlv l)):∃ x:RW OU,v=x.v∧x.z=l.toArray∧RdN qcg 15 w x∧FreshA B x.A:=by
 have h':w.ownsRow B e 15 v l.toArray.size (flatK qcg 15 l.toArray).toList:=by
  rw [qcm qqw]
  simpa [qlv] using h
 obtain ⟨A,c,hv,hr,hn,hf⟩:=qdj h'
 exact ⟨⟨A,c,l.toArray⟩,hv,rfl,⟨hr,hn⟩,hf⟩
theorem catO2 (a b:RW OU):catO #[a,b] 2=a.z ++ b.z:=by
 show (#[] ++ a.z) ++ b.z=_
 simp
theorem qhr (g c:Nat) {T:TypeId} (a b:RW OU) (w:World) (hg:w.heap[g]?=some (.cells #[.slice a.A a.z.size a.c,.slice b.A b.z.size b.c] T (0,0))) (ha:RdN qcg 15 w a) (hb:RdN qcg 15 w b) (hz:a.z.size + b.z.size≤100000) :
 Calls Tryz.prog 54 #[.slice (some ⟨g,0,none⟩) 2 c] w fun e w'=>(∃ x:RW OU,e=.returned (.slice x.A x.z.size x.c)∧x.z=a.z ++ b.z∧RdN qcg 15 w' x∧FreshA w.heap.size x.A)∧Below w.heap.size w w':=by
 have h0:RdK encW 1 w.heap.size w (some ⟨g,0,none⟩) #[a,b]:=fun _=>⟨g,0,rfl,qal hg,fun t ht=>by
  have ht':t < 2:=by simpa using ht
  rcases (show t=0∨t=1 by omega) with rfl | rfl
  ·rw [Nat.zero_add,cell_of_row w _ 0 _ _ (0,0) hg,get_flatK encW 1 #[a,b] 0 ht];rfl
  ·rw [Nat.zero_add,cell_of_row w _ 1 _ _ (0,0) hg,get_flatK encW 1 #[a,b] 1 ht];rfl⟩
 have:=qxd (some ⟨g,0,none⟩) c #[a,b] w h0 (fun i hi=>by
  have hi':i < 2:=by simpa using hi
  rcases (show i=0∨i=1 by omega) with rfl | rfl
  ·exact ha
  ·exact hb) (show 2≤1000 by decide) (fun k hk=>by
  have hk':k≤2:=by simpa using hk
  rcases (show k=0∨k=1∨k=2 by omega) with rfl | rfl | rfl
  ·show (#[]:Array OU).size≤_;simp
  ·show (#[] ++ a.z).size≤_;simp;omega
  ·rw [catO2,Array.size_append];exact hz)
 refine this.mono fun e w' ⟨v,he,ho,hb2⟩=>?_
 have e2:catO #[a,b] (#[a,b]:Array (RW OU)).size=a.z ++ b.z:=catO2 a b
 rw [e2] at ho
 obtain ⟨A,c',rfl,hr,hn,hf⟩:=qdj ho
 exact ⟨⟨⟨A,c',a.z ++ b.z⟩,he,rfl,⟨hr,hn⟩,hf⟩,hb2⟩
theorem qkx (r:RP) (hn:r.n≤9) (m:PM):(allO r m).length≤9:=by
 unfold allO qpg
 rw [List.length_map,Array.length_toList]
 have:=qlt r.self r.n.toNat
 omega
def qiz (r:RP):Nat→List OU
 | 0=>[]
 | k + 1=>qiz r k ++ allO r (ofM r.e.z[k]!)
theorem qqj (r:RP) (hn:r.n≤9) (k:Nat):(qiz r k).length≤9 * k:=by
 induction k with
 | zero=>exact Nat.le_refl _
 | succ k ih =>
   have:=qkx r hn (ofM r.e.z[k]!)
   unfold qiz
   rw [List.length_append]
   omega
end Go.Proofs.YtlkmagmdhopcjaaGreat
namespace Go.Proofs.YtlkmagmdhopcjaaGreat
open Go.RowKit Go.Sort Go.Lib
set_option maxRecDepth 100000
attribute [local go_sem ↓] qak qai qau
attribute [local go_sem] qao qaj qah qaq qbd qbf
def ToldR (r:RP) (B:Nat) (x:RW OU) (pm:PM) (W:World):Prop:=x.z=(qiz r r.e.z.size ++ allO r pm).toArray∧PrmM r pm∧RdM W pm∧RdN qcg 15 W x∧FreshA B x.A∧FreshA B pm.aA∧FreshA B pm.mA
set_option maxHeartbeats 8000000 in
theorem qqk (r:RP) (w:World) (h:RdP w r) (hf:FewC r) (hc:chkR r=true) :
 Calls Tryz.prog 27 #[.agg (encP r).toArray] w fun e w'=>(∃ (x:RW OU) (pm:PM),e=.returned (.slice x.A x.z.size x.c)∧ToldR r w.heap.size x pm w')∧Below w.heap.size w w':=by
 have HC:Hid (∀ W,Below w.heap.size w W→Calls Tryz.prog 15 #[.agg (encP r).toArray] W fun e w'=>e=.returned (.int .i64 0)∧Below W.heap.size W w'):=fun W hb=>by
  have:=qbh r W (h.below hb) hf
  rwa [qcw hc] at this
 have HPr:Hid (∀ W,Below w.heap.size w W→Calls Tryz.prog 28 #[.agg (encP r).toArray] W fun e w'=>(∃ (pm:PM) (cm:Array Value),e=.returned (.agg cm)∧cm=msgC pm∧PrmM r pm∧RdM w' pm∧FreshA W.heap.size pm.aA∧FreshA W.heap.size pm.mA)∧Below W.heap.size W w'):=fun W hb =>
  (qiy r W (h.below hb) hf hc).mono fun e w' ⟨⟨m,a,b,c⟩,d⟩=>⟨⟨m,_,a,rfl,b,c⟩,d⟩
 have HAll:Hid (∀ (pm:PM) (cm:Array Value),cm=msgC pm→∀ W,Below w.heap.size w W→Calls Tryz.prog 64 #[.agg (encP r).toArray,.agg cm] W fun e w'=>(∃ y:RW OU,e=.returned (.slice y.A y.z.size y.c)∧y.z=(allO r pm).toArray∧RdN qcg 15 w' y)∧Below W.heap.size W w'):=fun pm cm e W hb=>by
  rw [e]
  refine (qjz r pm W (h.below hb) hf).mono fun e w' ⟨⟨v,he,h1,_⟩,hb2⟩=>?_
  obtain ⟨y,rfl,hz,hr,_⟩:=qik (h1 hc)
  exact ⟨⟨y,he,hz,hr⟩,hb2⟩
 have HOf:Hid (∀ (u:EN) W,Below w.heap.size w W→Calls Tryz.prog 63 #[.agg (encP r).toArray,.agg #[.int .i64 u.id,.int .i64 u.ph,.int .i64 u.qu,.int .i64 u.t,.int .i64 u.bal,.int .i64 u.abal,.int .i64 u.seen,.int .i64 u.age,.string u.pay,.slice u.A u.z.size u.c]] W fun e w'=>(∃ y:RW OU,e=.returned (.slice y.A y.z.size y.c)∧y.z=(allO r (ofM u)).toArray∧RdN qcg 15 w' y)∧Below W.heap.size W w'):=fun u W hb=>by
  refine (qwo r u W (h.below hb) hf).mono fun e w' ⟨⟨v,he,h1,_⟩,hb2⟩=>?_
  obtain ⟨y,rfl,hz,hr,_⟩:=qik (h1 hc)
  exact ⟨⟨y,he,hz,hr⟩,hb2⟩
 have hmf:∀ (fn:Fn) (first cap:Array Value) (w:World),(Instr.makeFunc fn first cap).run Tryz.prog w=.ok (.func fn first cap) w:=fun _ _ _ _=>rfl
 have hn9:=(qet hc).1.2
 have HN9:=hI hn9
 have HRE:=hI h.e.rd
 have hez:=hf.es
 have HTL:Hid (∀ k,(qiz r k).toArray.size≤9 * k):=fun k=>by simpa using qqj r HN9.out k
 have HAS:Hid (∀ m,(allO r m).toArray.size≤9):=fun m=>by simpa using qkx r HN9.out m
 have HTS:Hid (∀ k,(qiz r (k + 1)).toArray=(qiz r k).toArray ++ (allO r (ofM r.e.z[k]!)).toArray):=fun k=>by
  show (qiz r k ++ allO r (ofM r.e.z[k]!)).toArray=_
  simp
 obtain ⟨cs,hcs⟩:∃ cs,cs=(encP r).toArray:=⟨_,rfl⟩
 obtain ⟨hsz,hone⟩:=rowP hcs
 have HBF:Array.foldl (fun (cs:Array Value) (x:Value×Nat)=>cs.setIfInBounds x.snd x.fst) #[.int .i64 0,.int .i64 0,.int .i64 0,.int .i64 0,.int .i64 0,.int .i64 0,.int .i64 0,.slice none 0 0,.slice none 0 0,.slice none 0 0,.slice none 0 0,.slice none 0 0,.slice none 0 0,.int .i64 0,.int .i64 0,.int .i64 0,.slice none 0 0,.slice none 0 0] cs.zipIdx 0 18=cs:=by rw [hcs];exact qqx r
 have HQ7:Hid (cs[7]?=some (.slice r.e.A r.e.z.size r.e.c)):=by show _=_;rw [hcs];rfl
 obtain ⟨TL,hTL⟩:∃ f:Nat→Array OU,f=fun k=>(qiz r k).toArray:=⟨_,rfl⟩
 obtain ⟨AL,hAL⟩:∃ f:PM→Array OU,f=fun m=>(allO r m).toArray:=⟨_,rfl⟩
 have HTL2:Hid (∀ k,(qiz r k).toArray=TL k):=fun k=>by rw [hTL]
 have HAL2:Hid (∀ m,(allO r m).toArray=AL m):=fun m=>by rw [hAL]
 have HT0:Hid (TL 0=#[]):=by show _=_;rw [hTL];rfl
 simp only [HTL2.out,HAL2.out] at HAll HOf HTL HAS HTS
 rw [←hcs] at HC HPr HAll HOf
 clear h hf hc hn9 hTL hAL
 have hgoal:∀ x:Array Value,cs=x→Calls Tryz.prog 27 #[.agg x] w fun e w'=>(∃ (x:RW OU) (pm:PM),e=.returned (.slice x.A x.z.size x.c)∧ToldR r w.heap.size x pm w')∧Below w.heap.size w w':=by
  rintro _ rfl
  simp only [encP] at hcs
  rw [hcs]
  go_enter Tryz.func27,Tryz.ntmps27
  rw [←hcs]
  clear hcs
  have HX:=hI (show BoxG w w.heap.size cs 35 (w.alloc (.cells cs 35)) from ⟨bel1 w _,heap_alloc_new w _⟩)
  have x1:=HX.out.box hsz
  have x2:=HX.out.rowAt
  go_upto_region 6 with (go_at_call 15;refine (HC.out _ HX.out.b).mono ?_;rintro _ w1 ⟨rfl,hb⟩;have HX1:=hI (HX.out.next hb);clear hb x1 x2;have x1:=HX1.out.box hsz;have x2:=HX1.out.rowAt;have c7:=HX1.out.at_ 7 HQ7.out)
  clear HBF HC HX c7 x1 x2
  go_loopw [4,6,16] (fun v p i wr=>∃ (k:Nat) (x:RW OU),v=.slice x.A x.z.size x.c∧i=.int .i64 k∧k≤r.e.z.size∧Hid (x.z=TL k)∧Hid (RdN qcg 15 wr x)∧Hid (Below w1.heap.size w1 wr)) (fun _ _ i _=>r.e.z.size - (intOf i).toNat)
  case atStart=>exact ⟨0,⟨none,0,#[]⟩,rfl,rfl,Nat.zero_le _,HT0.out.symm,⟨fun h0=>absurd h0 (by decide),fun _=>rfl⟩,hI (Below.refl _ _)⟩
  case round =>
   obtain ⟨k,x,rfl,rfl,hk,HXZ,HXR,HB⟩:=hrel
   have HXr:=hI (HX1.out.next HB.out)
   have HBs:=HB.out.size
   have hxs:x.z.size≤9 * k:=by rw [HXZ.out];exact HTL.out k
   by_cases hlt:k < r.e.z.size
   ·have kz:(k:Int) < (r.e.z.size:Int):=by omega
    obtain ⟨b,off,hA,hbl,f⟩:=(HRE.out.below (qaa HX1.out.b HB.out)).at_ (i:=k) hlt
    have HDK:=hI (HTS.out k)
    obtain ⟨u,hu⟩:∃ u,r.e.z[k]! = u:=⟨_,rfl⟩
    rw [hu] at f HDK
    have e0:=f 0 (by omega)
    have e1:=f 1 (by omega)
    have e2:=f 2 (by omega)
    have e3:=f 3 (by omega)
    have e4:=f 4 (by omega)
    have e5:=f 5 (by omega)
    have e6:=f 6 (by omega)
    have e7:=f 7 (by omega)
    have e8:=f 8 (by omega)
    have e9:=f 9 (by omega)
    simp only [encE,List.getElem!_cons_zero,List.getElem!_cons_succ,Nat.add_zero] at e0 e1 e2 e3 e4 e5 e6 e7 e8 e9
    clear f hu
    have HAu:=hI (HAS.out (ofM u))
    rw [hA]
    go_upto_region 8 with fail
    have hq:=heap_alloc_new wr (.cells #[.int .i64 u.id,.int .i64 u.ph,.int .i64 u.qu,.int .i64 u.t,.int .i64 u.bal,.int .i64 u.abal,.int .i64 u.seen,.int .i64 u.age,.string u.pay,.slice u.A u.z.size u.c] 58)
    have HBq:=hI (qab HB.out (.cells #[.int .i64 u.id,.int .i64 u.ph,.int .i64 u.qu,.int .i64 u.t,.int .i64 u.bal,.int .i64 u.abal,.int .i64 u.seen,.int .i64 u.age,.string u.pay,.slice u.A u.z.size u.c] 58))
    have HXRq:=hI (HXR.out.below (bel1 wr (.cells #[.int .i64 u.id,.int .i64 u.ph,.int .i64 u.qu,.int .i64 u.t,.int .i64 u.bal,.int .i64 u.abal,.int .i64 u.seen,.int .i64 u.age,.string u.pay,.slice u.A u.z.size u.c] 58)))
    obtain ⟨wq,hwq⟩:∃ W,W=wr.alloc (.cells #[.int .i64 u.id,.int .i64 u.ph,.int .i64 u.qu,.int .i64 u.t,.int .i64 u.bal,.int .i64 u.abal,.int .i64 u.seen,.int .i64 u.age,.string u.pay,.slice u.A u.z.size u.c] 58):=⟨_,rfl⟩
    rw [←hwq] at hq HBq HXRq ⊢
    clear e0 e1 e2 e3 e4 e5 e6 e7 e8 e9
    have d0:wq.cell? ⟨wr.heap.size,0,none⟩=some (.int .i64 u.id):=(cell_of_row wq _ 0 _ _ (0,0) hq).trans rfl
    have d1:wq.cell? ⟨wr.heap.size,1,none⟩=some (.int .i64 u.ph):=(cell_of_row wq _ 1 _ _ (0,0) hq).trans rfl
    have d2:wq.cell? ⟨wr.heap.size,2,none⟩=some (.int .i64 u.qu):=(cell_of_row wq _ 2 _ _ (0,0) hq).trans rfl
    have d3:wq.cell? ⟨wr.heap.size,3,none⟩=some (.int .i64 u.t):=(cell_of_row wq _ 3 _ _ (0,0) hq).trans rfl
    have d4:wq.cell? ⟨wr.heap.size,4,none⟩=some (.int .i64 u.bal):=(cell_of_row wq _ 4 _ _ (0,0) hq).trans rfl
    have d5:wq.cell? ⟨wr.heap.size,5,none⟩=some (.int .i64 u.abal):=(cell_of_row wq _ 5 _ _ (0,0) hq).trans rfl
    have d6:wq.cell? ⟨wr.heap.size,6,none⟩=some (.int .i64 u.seen):=(cell_of_row wq _ 6 _ _ (0,0) hq).trans rfl
    have d7:wq.cell? ⟨wr.heap.size,7,none⟩=some (.int .i64 u.age):=(cell_of_row wq _ 7 _ _ (0,0) hq).trans rfl
    have d8:wq.cell? ⟨wr.heap.size,8,none⟩=some (.string u.pay):=(cell_of_row wq _ 8 _ _ (0,0) hq).trans rfl
    have d9:wq.cell? ⟨wr.heap.size,9,none⟩=some (.slice u.A u.z.size u.c):=(cell_of_row wq _ 9 _ _ (0,0) hq).trans rfl
    clear hq hwq HXR HBs
    go_wp2_with (first
     | (go_at_call 63;refine (HOf.out u _ (qaa HX1.out.b HBq.out)).mono ?_;rintro _ w3 ⟨⟨y,rfl,hyz,hyr⟩,hb⟩;have HYZ:=hI hyz;have HYR:=hI hyr;have HXR3:=hI (HXRq.out.below hb);have HB3:=hI (qaa HBq.out hb);have hys:y.z.size≤9:=(by rw [HYZ.out];exact HAu.out);clear hyz hyr hb d0 d1 d2 d3 d4 d5 d6 d7 d8 d9)
     | (go_at_call 54;refine (qhr w3.heap.size 2 x y _ (heap_alloc_new w3 _) (HXR3.out.below (bel1 w3 _)) (HYR.out.below (bel1 w3 _)) (by omega)).mono ?_;rintro _ w4 ⟨⟨z,rfl,hzz,hzr,_⟩,hb⟩;have HZZ:=hI hzz;have HZR:=hI hzr;have HB4:=hI (qaa (qab HB3.out _) hb);clear hzz hzr hb))
    go_roundw
    case rel=>exact ⟨k + 1,z,rfl,by go_num,by omega,by show _=_;rw [HZZ.out,HXZ.out,HYZ.out,HDK.out],HZR,HB4⟩
    case measure=>simp [intOf];omega
   ·have hlt':decide ((k:Int) < (r.e.z.size:Int))=false:=decide_eq_false (by omega)
    obtain rfl:k=r.e.z.size:=by omega
    go_upto_region 10 with fail
    have KS:Hid (∀ W,Below wr.heap.size wr W→qap W w.heap.size 18=true∧rowAt W w.heap.size=cs):=fun W hb=>⟨(HXr.out.next hb).box hsz,(HXr.out.next hb).rowAt⟩
    refine qcz (S:=fun W=>qap W w.heap.size 18=true∧rowAt W w.heap.size=cs) (by kernel_rfl) ?_
    have hb1:Below wr.heap.size wr wr.drew:=(Below.refl _ _).drew
    have hS:=KS.out _ hb1
    refine tkF 27 0 rfl rfl hS ?_
    simp only [Act.put,sA,s0,s1]
    refine qil (some 28) (i:=1) (v:=.agg cs) rfl rfl (by kernel_rfl) (by kernel_rfl) (by kernel_rfl) (fun _ _ _ h=>h) (Or.inl ⟨by rfl,fun W hW=>qez rfl hW.1 hW.2⟩) hS ?_
    simp only [Act.put,sA,s0,s1]
    refine qil (some 29) (i:=2) (v:=.agg cs) rfl rfl (by kernel_rfl) (by kernel_rfl) (by kernel_rfl) (fun _ _ _ h=>h) (Or.inl ⟨by rfl,fun W hW=>qez rfl hW.1 hW.2⟩) hS ?_
    simp only [Act.put,sA,s0,s1]
    refine rdy1 3 rfl (fun K hK=>?_)
    go_simp
    refine (HPr.out _ (qaa HXr.out.b hb1)).mono ?_
    rintro _ w3 ⟨⟨pm,cm,rfl,hcm,hpm,hrm,hf1,hf2⟩,hb⟩
    have hb2:Below wr.heap.size wr w3:=qaa hb1 hb
    have HCM:=hI hcm
    have HPM:=hI hpm
    have HRM:=hI hrm
    have HF1:Hid (FreshA w.heap.size pm.aA):=hI (FreshA.mono hf1 (qaa HXr.out.b hb1).size)
    have HF2:Hid (FreshA w.heap.size pm.mA):=hI (FreshA.mono hf2 (qaa HXr.out.b hb1).size)
    refine hK.out _ _ (KS.out _ hb2) (fun _=>?_)
    clear hK K hS hcm hpm hrm hb hf1 hf2
    refine rdy1 4 rfl (fun K hK=>?_)
    go_simp
    refine (HAll.out pm cm HCM.out _ (qaa HXr.out.b hb2)).mono ?_
    rintro _ w4 ⟨⟨y,rfl,hyz,hyr⟩,hb⟩
    have hb3:Below wr.heap.size wr w4:=qaa hb2 hb
    have HYZ:=hI hyz
    have HYR:=hI hyr
    have HRM4:=hI (HRM.out.next hb)
    have HXR4:=hI (HXR.out.below hb3)
    have hys:y.z.size≤9:=by rw [HYZ.out];exact HAS.out pm
    refine hK.out _ _ (KS.out _ hb3) (fun _=>?_)
    clear hK K hyz hyr hb
    refine rdy1 5 rfl (fun K hK=>?_)
    go_simp
    refine hK.out _ _ (KS.out _ (qab hb3 _)) (fun _=>?_)
    clear hK K
    refine rdy1 6 rfl (fun K hK=>?_)
    go_simp
    refine (qhr w4.heap.size 2 x y _ (heap_alloc_new w4 _) (HXR4.out.below (bel1 w4 _)) (HYR.out.below (bel1 w4 _)) (by omega)).mono ?_
    rintro _ w5 ⟨⟨z,rfl,hzz,hzr,hzf⟩,hb⟩
    have hb5:Below wr.heap.size wr w5:=qaa (qab hb3 _) hb
    have HZZ:=hI hzz
    have HZR:=hI hzr
    have HZF:Hid (FreshA w.heap.size z.A):=hI (FreshA.mono hzf (qaa HXr.out.b (qab hb3 _)).size)
    have HRM5:=hI ((HRM4.out.next (bel1 w4 _)).next hb)
    refine hK.out _ _ (KS.out _ hb5) (fun _=>?_)
    clear hK K hzz hzr hb hzf
    have hS:=KS.out _ hb5
    refine tkF 2 7 rfl rfl hS ?_
    simp only [Act.put,sA,s0,s1]
    refine qca (by kernel_rfl) ?_ _
    go_wp2
    go_ret
    refine ⟨⟨z,pm,rfl,?_,HPM.out,HRM5.out,HZR.out,HZF.out,HF1.out,HF2.out⟩,qaa HXr.out.b hb5⟩
    show _=(qiz r r.e.z.size ++ allO r pm).toArray
    rw [HZZ.out,HXZ.out,HYZ.out,←HTL2.out,←HAL2.out]
    simp
 exact hgoal _ hcs
end Go.Proofs.YtlkmagmdhopcjaaGreat
namespace Go.Proofs.YtlkmagmdhopcjaaGreat
open Go.RowKit Go.Sort Go.Lib
theorem qos (e:EN):(ageE e).id=e.id:=by unfold ageE;split <;> rfl
theorem ageE_z (e:EN):(ageE e).z=e.z∧(ageE e).pay=e.pay∧(ageE e).ph=e.ph∧(ageE e).t=e.t:=by unfold ageE;split <;> exact ⟨rfl,rfl,rfl,rfl⟩
theorem ageE_chk {e:EN} (h:qcp e=true):qcp (ageE e)=true:=by
 unfold ageE
 split
 ·unfold qcp at h ⊢
  simp only [Bool.and_eq_true,decide_eq_true_eq] at h ⊢
  obtain ⟨⟨⟨⟨h1,h2⟩,h3⟩,h4⟩,h5⟩:=h
  refine ⟨⟨⟨⟨h1,?_⟩,h3⟩,h4⟩,h5⟩
  unfold qpc at h2 ⊢
  simp only at h2 ⊢
  omega
 ·exact h
theorem ageK_mem {d:Array EN} {x:EN} (h:x ∈ (ageK d d.size).toList):∃ i,i < d.size∧x=ageE d[i]!:=by
 obtain ⟨i,hi,rfl⟩:=qgb h
 rw [qch] at hi
 exact ⟨i,hi,by rw [qgl _ _ hi,if_pos hi]⟩
theorem ageK_chk {d:Array EN} (h:chkT d=true):chkT (ageK d d.size)=true:=by
 refine qct.2 ⟨by rw [qch];exact (qct.1 h).1,fun i hi=>?_⟩
 rw [qch] at hi
 have hi1:i - 1 < d.size:=by omega
 have h1:=(qct.1 h).2 i hi
 unfold atT at h1 ⊢
 rw [qgl _ _ hi,if_pos hi,qgl _ _ hi1,if_pos hi1,qos,qos]
 simp only [Bool.and_eq_true] at h1 ⊢
 exact ⟨ageE_chk h1.1,h1.2⟩
theorem AgedR.chk {r s:RP} (h:AgedR r s) (hc:chkR r=true):chkR s=true:=by
 rcases h with ⟨h0,_⟩ | ⟨_,q,h1⟩
 ·rw [h0] at hc;cases hc
 ·have h2:chkR { r with e:=s.e }=true:=by
   refine chk_e hc _ (by rw [h1];exact ageK_chk (qob hc)) fun x hx=>?_
   rw [h1] at hx
   obtain ⟨i,hi,rfl⟩:=ageK_mem hx
   rw [qos]
   exact qpd hc _ (qen _ hi)
  rw [q]
  obtain ⟨⟨a1,a2,a3,a4,a5,a6,a7,a8,a9⟩,hB,hC⟩:=(qbi _).1 h2
  have e7:0≤r.ticks:=a7
  exact (qbi _).2 ⟨⟨a1,a2,a3,a4,a5,a6,(by show 0≤min (r.ticks + 1) 1000000;omega),(by show min (r.ticks + 1) 1000000≤1000000;omega),a9⟩,hB,hC⟩
theorem AgedR.few {r s:RP} (h:AgedR r s) (hf:FewC r):FewC s:=by
 rcases h with ⟨_,rfl⟩ | ⟨_,q,h1⟩
 ·exact hf
 ·rw [q]
  refine ⟨?_,fun i hi=>?_,hf.o,hf.k,hf.m,hf.mm,hf.fr,hf.d,hf.dd,hf.kk⟩
  ·show s.e.z.size≤1000
   rw [h1,qch]
   exact hf.es
  ·have hi':i < s.e.z.size:=hi
   show s.e.z[i]!.z.size≤1000∧s.e.z[i]!.pay.size≤1000
   rw [h1] at hi' ⊢
   rw [qch] at hi'
   rw [qgl _ _ hi',if_pos hi',(ageE_z _).1,(ageE_z _).2.1]
   exact hf.ee i hi'
def qgj (P:RP→Int→RP→List OU→Prop) (r:RP) (d:Array Int):Nat→RP→List OU→Prop
 | 0,s,os=>s=r∧os=[]
 | k + 1,s,os=>∃ t o1 o2,qgj P r d k t o1∧P t d[k]! s o2∧os=o1 ++ o2
def TickR (P:RP→Int→RP→List OU→Prop) (r s:RP) (x:RW OU) (W:World):Prop:=(chkR r=false∧s=r∧x.z=#[]) ∨
 (chkR r=true∧∃ r1 s2 pm os,RefR r r1∧AgedR r1 s2∧qgj P s2 (dueR s2) (dueR s2).size s os∧x.z=(os ++ (qiz s s.e.z.size ++ allO s pm)).toArray∧PrmM s pm∧RdM W pm)
theorem SepR.congr {r s:RP} {B:Nat} {w1 w2:World} (h:SepR r B w1 s) (hs:w2.heap.size=w1.heap.size) (hw:∀ j,B≤j→w2.heap[j]?=w1.heap[j]?):SepR r B w2 s:=fun W hr ho hz =>
 h W hr (fun j j1 j2=>(ho j j1 (by rw [hs];exact j2)).trans (hw j j1)) (by rw [←hs];exact hz)
theorem RdM.far {w W:World} {m:PM} {g:Nat} (h:RdM w m) (hs:W.heap.size=w.heap.size) (ha:∀ q,m.aA=some q→q.block≠g) (hm:∀ q,m.mA=some q→q.block≠g) (hh:∀ b,b≠g→W.heap[b]?=w.heap[b]?):RdM W m :=
 ⟨by rw [hs];exact RdK.farG h.ra (fun _=>ha) hh,by rw [hs];exact RdI_R.farG (A:=m.mA) h.rm (fun _=>hm) hh,h.sa,h.sm,h.sp⟩
theorem qql (r:RP):(dueR r).size≤r.e.z.size:=by
 unfold dueR
 split
 ·exact qqy _ _
 ·exact Nat.zero_le _
end Go.Proofs.YtlkmagmdhopcjaaGreat
namespace Go.Proofs.YtlkmagmdhopcjaaGreat
open Go.RowKit Go.Sort Go.Lib
set_option maxRecDepth 100000
attribute [local go_sem ↓] qak qai
attribute [local go_sem] qao qaj qah qaq qbd
theorem qha {fn:Func} {t u v:Tmp} (hf:fn.results=#[.cell t 35,.tmp u,.tmp v]) {tm:Array Value} {W:World} {g:Nat} {cs:Array Value} {T:TypeId} (hg:tm.getD t undef=.pointer (some ⟨g,0,none⟩)) (h:W.heap[g]?=some (.cells cs T (0,0))) (hc:cs.size=18):(results fn tm).run Tryz.prog W=.ok (.tuple #[.agg cs,tm.getD u undef,tm.getD v undef]) W:=by
 have hg2:tm[t]?.getD undef=.pointer (some ⟨g,0,none⟩):=by rw [←Array.getD_eq_getD_getElem?];exact hg
 simp [results,hf,hg2,asAddr,qfo h hc]
theorem RdK.sepG {α:Type} [Inhabited α] {enc:α→List Value} {k B:Nat} {w1 W:World} {A:Option Addr} {d:Array α} (h:RdK enc k w1.heap.size w1 A d) (hf:FreshA B A) (hw:∀ j,B≤j→j < w1.heap.size→W.heap[j]?=w1.heap[j]?) (hs:w1.heap.size≤W.heap.size):RdK enc k W.heap.size W A d:=fun h0=>by
 obtain ⟨b,off,e,hlt,hc⟩:=h h0
 have hB:B≤b:=hf _ e
 exact ⟨b,off,e,by omega,fun t ht=>(qov (p:=⟨b,off + t,none⟩) (hw b hB hlt)).trans (hc t ht)⟩
theorem sep_o {r:RP} {y:RW (Int×Int)} {t:Int} {B:Nat} {w1 W':World} (hy:RdN qaf 2 w1 y) (hf:FreshA B y.A) (hw:∀ j,B≤j→j < w1.heap.size→W'.heap[j]?=w1.heap[j]?) (hs:w1.heap.size≤W'.heap.size):SepR r B W' { r with clock:=t,o:=y }:=fun V hr ho hz =>
 ⟨hr.e,⟨hy.rd.sepG hf (fun j j1 j2=>(ho j j1 (by omega)).trans (hw j j1 j2)) (by omega),hy.no⟩,hr.k,hr.kk,hr.m,hr.mm,hr.fr,hr.d,hr.dd,hr.it,hr.ss⟩
def qot (r:RP) (id least:Int) (s:RP) (t X:Int):Prop:=X=clkX r.clock r.o.z id least∧(X≠0→s=r)∧(X=0→t=max least (r.clock + 1)∧s={ r with clock:=t,o:=s.o }∧s.o.z=r.o.z.push (t,id))
theorem clk0 {r:RP} (hc:chkR r=true):clkB r.clock 0 r.o.z=true:=by
 obtain ⟨h1,h2⟩:=qga.1 (qfc hc)
 exact qga.2 ⟨⟨Int.le_refl _,by omega,h1.2.2⟩,h2.1,fun x hx=>⟨by have:=(h2.2.1 x hx).1;omega,(h2.2.1 x hx).2⟩,h2.2.2⟩
set_option maxHeartbeats 8000000 in
theorem timed_any (r:RP) (id least:Int) (w:World) (h:RdP w r) (hf:FewC r) (hc:chkR r=true) (hi:10≤id∧id≤999999∧id % 10≠0) (hl:0≤least∧least≤1000000) :
 Calls Tryz.prog 239 #[.agg (encP r).toArray,.int .i64 id,.int .i64 least] w fun e w'=>(∃ (s:RP) (t X:Int),e=.returned (.tuple #[.agg (encP s).toArray,.int .i64 t,.int .i64 X])∧qot r id least s t X∧SepR r w.heap.size w' s)∧Below w.heap.size w w':=by
 have HC:Hid (∀ W,Below w.heap.size w W→Calls Tryz.prog 15 #[.agg (encP r).toArray] W fun e w'=>e=.returned (.int .i64 0)∧Below W.heap.size W w'):=fun W hb=>by
  have:=qbh r W (h.below hb) hf
  rwa [qcw hc] at this
 have HPr:Hid (∀ W,Below w.heap.size w W→Calls Tryz.prog 270 #[.int .i64 r.clock,.slice r.o.A r.o.z.size r.o.c,.int .i64 id,.int .i64 least] W fun e w'=>(∃ (y:RW (Int×Int)) (t:Int),e=.returned (.tuple #[.int .i64 t,.slice y.A y.z.size y.c,.int .i64 (clkX r.clock r.o.z id least)])∧(clkX r.clock r.o.z id least=0→t=max least (r.clock + 1)∧y.z=r.o.z.push (t,id)∧RdN qaf 2 w' y∧FreshA W.heap.size y.A))∧Below W.heap.size W w'):=fun W hb =>
  qst r.o.A r.o.c r.o.z r.clock id least W (h.o.below hb).rd hf.o (clk0 hc) hi hl
 obtain ⟨X,hX⟩:∃ X,clkX r.clock r.o.z id least=X:=⟨_,rfl⟩
 rw [hX] at HPr
 have HX:=hI hX
 obtain ⟨cs,hcs⟩:∃ cs,cs=(encP r).toArray:=⟨_,rfl⟩
 obtain ⟨hsz,hone⟩:=rowP hcs
 have HCS:=hI hcs
 have HQ3:Hid (cs[3]?=some (.int .i64 r.clock)):=by show _=_;rw [hcs];rfl
 have HQ8:Hid (cs[8]?=some (.slice r.o.A r.o.z.size r.o.c)):=by show _=_;rw [hcs];rfl
 rw [←hcs] at HC
 clear h hf hc hi hl hX
 have hgoal:∀ x:Array Value,cs=x→Calls Tryz.prog 239 #[.agg x,.int .i64 id,.int .i64 least] w fun e w'=>(∃ (s:RP) (t X:Int),e=.returned (.tuple #[.agg (encP s).toArray,.int .i64 t,.int .i64 X])∧qot r id least s t X∧SepR r w.heap.size w' s)∧Below w.heap.size w w':=by
  rintro _ rfl
  simp only [encP] at hcs
  rw [hcs]
  go_enter Tryz.func239,Tryz.ntmps239
  rw [←hcs]
  clear hcs
  have HB:=hI (BoxG.fst w cs qbp 35 35)
  have HZ:=hI (BoxG.snd w cs qbp 35 35)
  simp only [qbp] at HB HZ
  have x1:=HB.out.box hsz
  have x2:=HB.out.rowAt
  go_upto_region 4 with (first
   | (go_at_call 15;refine (HC.out _ HB.out.b).mono ?_;rintro _ w1 ⟨rfl,hb⟩;have HB1:=hI (HB.out.next hb);have HZ1:=hI (HZ.out.next hb);clear hb x1 x2;have c3:=HB1.out.at_ 3 HQ3.out;have c8:=HB1.out.at_ 8 HQ8.out)
   | (go_at_call 270;refine (HPr.out _ HB1.out.b).mono ?_;rintro _ w2 ⟨⟨y,t,rfl,hy⟩,hb⟩;have HB2:=hI (HB1.out.next hb);have HZ2:=hI (HZ1.out.next hb);have HY:=hI hy;have HLW:=hI hb.size;clear hb hy c3 c8))
  have hZ1:=HZ1.out.lt
  by_cases h0:X=0
  ·subst h0
   obtain ⟨ht,hyz,hyr,hyf⟩:=HY.out rfl
   have HT:=hI ht
   have HYZ:=hI hyz
   have HYR:=hI hyr
   have HYF:=hI hyf
   clear ht hyz hyr hyf HY
   have c3:=HB2.out.at_ 3 HQ3.out
   have c8:=HB2.out.at_ 8 HQ8.out
   have f3:=HB2.out.froz 3
   have f8:=HB2.out.froz 8
   go_upto_region 7 with fail
   have HB3:=hI ((HB2.out.set (Nat.le_refl _) 3 (.int .i64 t)).set (Nat.le_refl _) 8 (.slice y.A y.z.size y.c))
   have HZ3:=hI ((HZ2.out.far (g2:=w.heap.size) (Nat.le_refl _) (by omega) 3 (.int .i64 t)).far (g2:=w.heap.size) (Nat.le_refl _) (by omega) 8 (.slice y.A y.z.size y.c))
   have HO3:Hid (∀ j,w1.heap.size≤j→((w2.setCell ⟨w.heap.size,3,none⟩ (.int .i64 t)).setCell ⟨w.heap.size,8,none⟩ (.slice y.A y.z.size y.c)).heap[j]?=w2.heap[j]?):=fun j hj=>(Below.heap_setCell _ _ _ _ (by have:=HB1.out.b.size;have:=HZ1.out.lt;show j≠w.heap.size;omega)).trans (Below.heap_setCell _ _ _ _ (by have:=HZ1.out.lt;show j≠w.heap.size;omega))
   have hs3:((w2.setCell ⟨w.heap.size,3,none⟩ (.int .i64 t)).setCell ⟨w.heap.size,8,none⟩ (.slice y.A y.z.size y.c)).heap.size=w2.heap.size:=by simp
   obtain ⟨w3,hw3⟩:∃ W,W=(w2.setCell ⟨w.heap.size,3,none⟩ (.int .i64 t)).setCell ⟨w.heap.size,8,none⟩ (.slice y.A y.z.size y.c):=⟨_,rfl⟩
   rw [←hw3] at HB3 HZ3 HO3 hs3 ⊢
   clear hw3 c3 c8 f3 f8
   obtain ⟨ct,hct⟩:∃ c,c=(encP { r with clock:=t,o:=y }).toArray:=⟨_,rfl⟩
   have hset:(cs.setIfInBounds 3 (.int .i64 t)).setIfInBounds 8 (.slice y.A y.z.size y.c)=ct:=by rw [HCS.out,hct];rfl
   rw [hset] at HB3
   obtain ⟨hszt,honet⟩:=rowP hct
   have HCT:=hI hct
   clear hset hct
   have x1:=HB3.out.box hszt
   have x2:=HB3.out.rowAt
   have x3:=HZ3.out.box (n:=18) rfl
   go_wp2
   refine bodyPost_ret (qha rfl rfl (setRow_heap _ _ _ _ _ _ HZ3.out.row) hszt) rfl ?_
   refine ⟨⟨{ r with clock:=t,o:=y },t,0,by rw [HCT.out];rfl,⟨HX.out.symm,fun h=>absurd rfl h,fun _=>⟨HT.out,rfl,HYZ.out⟩⟩,?_⟩,HZ3.out.b.trans ⟨rfl,rfl,rfl,by simp,fun j hj=>setRow_other _ _ j _ (by omega)⟩⟩
   refine SepR.monoG (B:=w1.heap.size) (sep_o HYR.out HYF.out (fun j j1 _=>(setRow_other _ _ j _ (by omega)).trans (HO3.out j j1)) (by simp;omega)) HB1.out.b.size
  ·have h0':(X != 0)=true:=by simpa using h0
   have x1:=HB2.out.box hsz
   have x2:=HB2.out.rowAt
   have x3:=HZ2.out.box (n:=18) rfl
   go_wp2
   refine bodyPost_ret (qha rfl rfl (setRow_heap _ _ _ _ _ _ HZ2.out.row) hsz) rfl ?_
   exact ⟨⟨r,0,X,by rw [HCS.out];rfl,⟨HX.out.symm,fun _=>rfl,fun h=>absurd h h0⟩,SepR.self _ _ _⟩,HZ2.out.b.trans ⟨rfl,rfl,rfl,by simp,fun j hj=>setRow_other _ _ j _ (by omega)⟩⟩
 exact hgoal _ hcs
def TimO (r:RP) (id least:Int) (w:World) (e:Ending) (w':World):Prop:=(∃ (s:RP) (t X:Int),e=.returned (.tuple #[.agg (encP s).toArray,.int .i64 t,.bool (X == 0)])∧qot r id least s t X∧SepR r w.heap.size w' s)∧Below w.heap.size w w'
set_option maxHeartbeats 8000000 in
theorem oTime_any (r:RP) (id least:Int) (w:World) (h:RdP w r) (hf:FewC r) (hc:chkR r=true) (hi:10≤id∧id≤999999∧id % 10≠0) (hl:0≤least∧least≤1000000) :
 Calls Tryz.prog 196 #[.agg (encP r).toArray,.int .i64 id,.int .i64 least] w fun e w'=>TimO r id least w e w':=by
 have HT:Hid (∀ W,Below w.heap.size w W→Calls Tryz.prog 239 #[.agg (encP r).toArray,.int .i64 id,.int .i64 least] W fun e w'=>(∃ (s:RP) (c:Array Value) (t X:Int),e=.returned (.tuple #[.agg c,.int .i64 t,.int .i64 X])∧c=(encP s).toArray∧qot r id least s t X∧SepR r W.heap.size w' s)∧Below W.heap.size W w'):=fun W hb =>
  (timed_any r id least W (h.below hb) hf hc hi hl).mono fun e w' ⟨⟨s,t,X,a,b,c⟩,d⟩=>⟨⟨s,_,t,X,a,rfl,b,c⟩,d⟩
 obtain ⟨cs,hcs⟩:∃ cs,cs=(encP r).toArray:=⟨_,rfl⟩
 obtain ⟨hsz,hone⟩:=rowP hcs
 rw [←hcs] at HT
 clear h hf hc hi hl
 have hgoal:∀ x:Array Value,cs=x→Calls Tryz.prog 196 #[.agg x,.int .i64 id,.int .i64 least] w fun e w'=>TimO r id least w e w':=by
  rintro _ rfl
  simp only [encP] at hcs
  rw [hcs]
  go_enter Tryz.func196,Tryz.ntmps196
  rw [←hcs]
  clear hcs
  have HB:=hI (BoxG.fst w cs qbp 35 35)
  have HZ:=hI (BoxG.snd w cs qbp 35 35)
  simp only [qbp] at HB HZ
  have x1:=HB.out.box hsz
  have x2:=HB.out.rowAt
  go_upto_region 2 with (go_at_call 239;refine (HT.out _ HB.out.b).mono ?_;rintro _ w1 ⟨⟨s,c1,t,X,rfl,hc1,ht,hsp⟩,hb⟩;have HZ1:=hI (HZ.out.next hb);have HC1:=hI hc1;have HTR:=hI ht;have HSP:=hI hsp;have HHB:=hI HB.out.b.size;have HHZ:=hI HZ.out.lt;obtain ⟨hsz1,hone1⟩:=rowP hc1;clear hb hc1 ht hsp x1 x2)
  have HX1:=hI (show BoxG w w1.heap.size c1 35 (w1.alloc (.cells c1 35)) from ⟨qab HZ1.out.b _,heap_alloc_new w1 _⟩)
  have HZ2:=hI (HZ1.out.next (bel1 w1 (.cells c1 35)))
  have HS2:=hI (HSP.out.below (bel1 w1 (.cells c1 35)))
  have hlt1:=HZ1.out.lt
  obtain ⟨w2,hw2⟩:∃ W,W=w1.alloc (.cells c1 35):=⟨_,rfl⟩
  rw [←hw2] at HX1 HZ2 HS2 ⊢
  clear hw2
  have x1:=HX1.out.box hsz1
  have x2:=HX1.out.rowAt
  have x3:=HZ2.out.box (n:=18) rfl
  obtain ⟨ok,hok⟩:∃ b,(X == 0)=b:=⟨_,rfl⟩
  have HOK:=hI hok
  go_wp2
  refine bodyPost_ret (qha rfl rfl (setRow_heap _ _ _ _ _ _ HZ2.out.row) hsz1) rfl ?_
  refine ⟨⟨s,t,X,by rw [HC1.out,HOK.out];rfl,HTR.out,?_⟩,HZ2.out.b.trans ⟨rfl,rfl,rfl,by simp,fun j hj=>setRow_other _ _ j _ (by omega)⟩⟩
  exact SepR.monoG (B:=((w.alloc (.cells cs 35)).alloc (.cells #[.int .i64 0,.int .i64 0,.int .i64 0,.int .i64 0,.int .i64 0,.int .i64 0,.int .i64 0,.slice none 0 0,.slice none 0 0,.slice none 0 0,.slice none 0 0,.slice none 0 0,.slice none 0 0,.int .i64 0,.int .i64 0,.int .i64 0,.slice none 0 0,.slice none 0 0] 35)).heap.size) (HS2.out.congr (by simp) (fun j hj=>setRow_other _ _ j _ (by have:=HHZ.out;simp at this hj;omega))) HHB.out
 exact hgoal _ hcs
end Go.Proofs.YtlkmagmdhopcjaaGreat
