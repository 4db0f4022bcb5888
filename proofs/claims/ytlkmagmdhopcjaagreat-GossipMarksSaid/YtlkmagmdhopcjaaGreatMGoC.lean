/- Texts that the law leans on. -/
import Derived.Test.YtlkmagmdhopcjaaGreatMRgP
import Derived.Test.YtlkmagmdhopcjaaGreatMAgeB
import Derived.Test.YtlkmagmdhopcjaaGreatMStG
import Derived.Test.YtlkmagmdhopcjaaGreatMOwnK
import Derived.Test.YtlkmagmdhopcjaaGreatMClP
namespace Go.Proofs.YtlkmagmdhopcjaaGreat
open Go.RowKit Go.Sort Go.Lib
set_option maxRecDepth 100000
attribute [local go_sem ↓] qak qai qau
attribute [local go_sem] qao qaj qah qaq qbd qbf
structure BoxO (w:World) (cs cm cz:Array Value) (W:World):Prop where
 r:BoxG w w.heap.size cs 35 W
 m:BoxG w (w.heap.size + 1) cm 37 W
 z:BoxG w (w.heap.size + 1 + 1) cz 35 W
theorem BoxO.init (w:World) (cs cm cz:Array Value):BoxO w cs cm cz (((w.alloc (.cells cs 35)).alloc (.cells cm 37)).alloc (.cells cz 35)):=⟨BoxG.t1 w _ _ _ _ _ _,BoxG.t2 w _ _ _ _ _ _,BoxG.t3 w _ _ _ _ _ _⟩
theorem BoxO.next {w W W':World} {cs cm cz:Array Value} (h:BoxO w cs cm cz W) (hb:Below W.heap.size W W'):BoxO w cs cm cz W':=⟨h.r.next hb,h.m.next hb,h.z.next hb⟩
theorem AddO.at_ {r:RP} {m:PM} {p B B':Nat} {x:KE} {W W':World} (h:AddO r m p B x W) (hB:B'≤B) (hr:RdKE W' x):AddO r m p B' x W':=⟨h.a,h.s,h.n.mono hB,hr⟩
theorem quu {r:RP} {c:Array Value} {v:Value} (h:c=(encP r).toArray) (hv:v=.slice none 0 0):(Ending.returned (.tuple #[.agg c,v]))=.returned (.tuple #[.agg (encP r).toArray,.slice none 0 0]):=by rw [h,hv]
theorem BoxO.setR {w W:World} {cs cm cz:Array Value} (h:BoxO w cs cm cz W) (j:Nat) (v:Value):BoxO w (cs.setIfInBounds j v) cm cz (W.setCell ⟨w.heap.size,j,none⟩ v):=⟨h.r.set (Nat.le_refl _) j v,h.m.far (g2:=w.heap.size) (Nat.le_refl _) (by omega) j v,h.z.far (g2:=w.heap.size) (Nat.le_refl _) (by omega) j v⟩
theorem BoxO.put3 {w W:World} {cs cm cz:Array Value} (h:BoxO w cs cm cz W) {K:Nat} (hK:w.heap.size + 1 + 1 + 1≤K) (p:Nat) (x:KE):BoxO w cs cm cz (Go.Proofs.YtlkmagmdhopcjaaGreat.put3 W K p x):=⟨h.r.put3 (by omega) (by omega) p x,h.m.put3 (by omega) (by omega) p x,h.z.put3 (by omega) (by omega) p x⟩
theorem own_put3 {W:World} {B K n cK p:Nat} {ks:Array KE} (h:W.ownsRow B 66 3 (.slice (some ⟨K,0,none⟩) n cK) n (flatK qaz 3 ks).toList) (hi:p < ks.size) (x:KE):(put3 W K p x).ownsRow B 66 3 (.slice (some ⟨K,0,none⟩) n cK) n (flatK qaz 3 (ks.setIfInBounds p x)).toList:=by
 rw [qng ks p x hi]
 exact (((h.stored (p * 3) _).1.stored (p * 3 + 1) _).1.stored (p * 3 + 2) _).1
theorem qoa (W:World) (K p:Nat) (x:KE) {j:Nat} (h:j≠K):(put3 W K p x).heap[j]?=W.heap[j]?:=by
 unfold put3
 rw [heap_setCell_other _ ⟨K,_,none⟩ j _ h,heap_setCell_other _ ⟨K,_,none⟩ j _ h,heap_setCell_other _ ⟨K,_,none⟩ j _ h]
theorem qlp {W:World} {B K n cK:Nat} {l:List Value} (h:W.ownsRow B 66 3 (.slice (some ⟨K,0,none⟩) n cK) n l) {j:Nat} (hj:j < n * 3):∃ v,W.cell? ⟨K,j,none⟩=some v:=by
 have:=h.cellAt j hj
 rw [this]
 have hl:l.length=n * 3:=h.1
 exact ⟨_,List.getElem?_eq_getElem (by omega)⟩
def OnPrO (r:RP) (m:PM) (w:World) (e:Ending) (w':World):Prop:=(∃ s:RP,e=.returned (.tuple #[.agg (encP s).toArray,.slice none 0 0])∧OnPrR r m s∧SepR r w.heap.size w' s)∧Below w.heap.size w w'
theorem qla {r:RP} {m:PM} {w W:World} {c:Array Value} {v:Value} {g:Nat} (hc:c=(encP r).toArray) (hv:v=.slice none 0 0) (h:okPr r m=false) (hb:Below w.heap.size w W) (hg:w.heap.size≤g):OnPrO r m w (.returned (.tuple #[.agg c,v])) (W.setRow g c) :=
 ⟨⟨r,quu hc hv,Or.inl ⟨h,rfl⟩,SepR.self _ _ _⟩,hb.trans ⟨rfl,rfl,rfl,by simp,fun j hj=>setRow_other _ _ j _ (by omega)⟩⟩
theorem onPr_good {r a b s:RP} {m:PM} {w W7 W8 W9:World} {c:Array Value} {v:Value} {g:Nat} (hc:c=(encP s).toArray) (hv:v=.slice none 0 0) (h:okPr r m=true) (h1:PromR r m a) (h2:RefR a b) (h3:DropR b s)
 (s1:SepR r (g + 1) W7 a) (s2:SepR a W7.heap.size W8 b) (s3:SepR b W8.heap.size W9 s) (b7:Below w.heap.size w W7) (b8:Below W7.heap.size W7 W8) (b9:Below W8.heap.size W8 W9) (hg:w.heap.size≤g) (hg7:g < W7.heap.size):OnPrO r m w (.returned (.tuple #[.agg c,v])) (W9.setRow g c):=by
 have hs8:=b8.size
 have hb:Below w.heap.size w W9:=qaa (qaa b7 b8) b9
 have hsep:SepR r (g + 1) W9 s:=(s1.trans s2 b8 (by omega)).trans s3 b9 (by omega)
 refine ⟨⟨s,quu hc hv,Or.inr ⟨h,a,b,h1,h2,h3⟩,fun W' hr ha hz=>hsep W' hr (fun j j1 j2=>(ha j (by omega) (by simpa using j2)).trans (setRow_other _ _ j _ (by omega))) (by simpa using hz)⟩,hb.trans ⟨rfl,rfl,rfl,by simp,fun j hj=>setRow_other _ _ j _ (by omega)⟩⟩
set_option maxHeartbeats 16000000 in
theorem qqt (r:RP) (m:PM) (w:World) (h:RdP w r) (hm:RdM w m) (hf:FewP r) :
 Calls Tryz.prog 9 #[.agg (encP r).toArray,.agg (msgC m)] w fun e w'=>OnPrO r m w e w':=by
 have HRD:=hI h
 have HRM:=hI hm
 have HFP:=hI hf
 obtain ⟨cs,hcs⟩:∃ cs,cs=(encP r).toArray:=⟨_,rfl⟩
 obtain ⟨hsz,hone⟩:=rowP hcs
 have HCS:=hI hcs
 obtain ⟨cm,hcm⟩:∃ cm,cm=msgC m:=⟨_,rfl⟩
 have hsm:cm.size=14:=by rw [hcm];rfl
 have HCM:=hI hcm
 have hgoal:∀ x y:Array Value,cs=x→cm=y→Calls Tryz.prog 9 #[.agg x,.agg y] w fun e w'=>OnPrO r m w e w':=by
  rintro _ _ rfl rfl
  simp only [encP] at hcs
  simp only [msgC] at hcm
  by_cases hk:m.k=10
  ·have HH:Hid (∀ W,Below w.heap.size w W→Calls Tryz.prog 29 #[.agg cs,.agg cm] W fun e w'=>e=.returned (.bool (qft r m))∧Below W.heap.size W w'):=fun W hb=>by
    rw [HCS.out,HCM.out]
    exact qqu r m W (h.below hb) (hm.next hb) hf.c hk
   have HM0:Hid (cm[0]?=some (.int .i64 10)):=by show _=_;rw [HCM.out,←hk];rfl
   by_cases hh:qft r m=true
   ·rw [hh] at HH
    obtain ⟨p,n,hp⟩:=heP hh hk hm
    have HP:=hI hp
    have hpk:p < r.k.z.size:=by have:=qhk hp.c;have:=hp.nn;have:=hp.pn;omega
    have hk20:=hf.c.k
    obtain ⟨bk,ok,hA,hbk,fk⟩:=h.k.rd.at_ (i:=p) hpk
    have HOKP:Hid (okPr r m=(addB r.k.z[p]!.kn m.lo m.hi m.ats && decide (qas m.mks r.n=0))):=hp.ok hh hk
    have HAD:=hI (fun ha hx=>hp.okp ha hx)
    have hwr:IntKind.i64.wrap (p:Int)=(p:Int):=IntWalk.i64_in _ (by omega)
    have hpz:(p:Int) < (r.k.z.size:Int):=by omega
    have HQ9:Hid (cs[9]?=some (.slice (some ⟨bk,ok,none⟩) r.k.z.size r.k.c)):=by show _=_;rw [HCS.out,←hA];rfl
    have HQ0:Hid (cs[0]?=some (.int .i64 (n:Int))):=by show _=_;rw [HCS.out,←hp.nn];rfl
    have HQ10:Hid (cs[10]?=some (.slice r.m.A r.m.z.size r.m.c)):=by show _=_;rw [HCS.out];rfl
    have HQ11:Hid (cs[11]?=some (.slice r.fr.A r.fr.z.size r.fr.c)):=by show _=_;rw [HCS.out];rfl
    have HM1:Hid (cm[1]?=some (.int .i64 ((p:Int) + 1))):=by show _=_;rw [HCM.out,←hp.fr];rfl
    have HM9:Hid (cm[9]?=some (.int .i64 m.lo)):=by show _=_;rw [HCM.out];rfl
    have HM10:Hid (cm[10]?=some (.int .i64 m.hi)):=by show _=_;rw [HCM.out];rfl
    have HM11:Hid (cm[11]?=some (.slice m.aA m.ats.size m.aC)):=by show _=_;rw [HCM.out];rfl
    have HM12:Hid (cm[12]?=some (.slice m.mA m.mks.size m.mC)):=by show _=_;rw [HCM.out];rfl
    have HM13:Hid (cm[13]?=some (.int .i64 m.dn)):=by show _=_;rw [HCM.out];rfl
    have hfr:=qip hp.c
    rw [hp.nn] at hfr
    have HAd:Hid (∀ W,Below w.heap.size w W→Calls Tryz.prog 30 #[.agg (qaz r.k.z[p]!).toArray,.int .i64 m.lo,.int .i64 m.hi,.slice m.aA m.ats.size m.aC] W fun e w'=>(∃ x:KE,e=.returned (.tuple #[.agg (qaz x).toArray,.int .i64 (if addB r.k.z[p]!.kn m.lo m.hi m.ats then 0 else 2)])∧(addB r.k.z[p]!.kn m.lo m.hi m.ats=true→AddO r m p W.heap.size x w'))∧Below W.heap.size W w'):=fun W hb=>pAddX (HRD.out.below hb) HFP.out (HRM.out.next hb) HP.out
    have HTl:Hid (∀ W,Below w.heap.size w W→Calls Tryz.prog 31 #[.slice r.m.A r.m.z.size r.m.c,.int .i64 n,.int .i64 ((p:Int) + 1),.slice m.mA m.mks.size m.mC] W fun e w'=>(∃ y:RW (RW Int),e=.returned (.tuple #[.slice y.A y.z.size y.c,.int .i64 (if qas m.mks r.n=0 then 0 else 2)])∧(qas m.mks r.n=0→SepMM W.heap.size w' r.m.z y∧qyx r.m.z p (qda r.m.z[p]!.z m.mks) y.z))∧Below W.heap.size W w'):=fun W hb=>pTellX (HRD.out.below hb) (HRM.out.next hb) HP.out
    have HFr:Hid (∀ W,Below w.heap.size w W→Calls Tryz.prog 32 #[.slice r.fr.A r.fr.z.size r.fr.c,.int .i64 n,.int .i64 ((p:Int) + 1),.int .i64 m.dn] W fun e w'=>(∃ f:RW Int,e=.returned (.tuple #[.slice f.A f.z.size f.c,.int .i64 0])∧f.z=qfu r.fr.z p m.dn∧OwnJ W.heap.size w' f)∧Below W.heap.size W w'):=fun W hb=>qlw r.fr.A r.fr.c n p r.fr.z m.dn W (HRD.out.fr.below hb).rd hfr HP.out.pn HP.out.dn
    have HCl:Hid (∀ W,Below w.heap.size w W→Calls Tryz.prog 33 #[.slice (some ⟨bk,ok,none⟩) r.k.z.size r.k.c] W fun e w'=>∃ g c,e=.returned (.slice (some ⟨g,0,none⟩) r.k.z.size c)∧W.heap.size≤g∧w'.ownsRow W.heap.size 66 3 (.slice (some ⟨g,0,none⟩) r.k.z.size c) r.k.z.size (flatK qaz 3 r.k.z).toList∧Below W.heap.size W w'):=fun W hb=>by
     have h1:=(HRD.out.k.below hb).rd
     have hA':r.k.A=some ⟨bk,ok,none⟩:=hA
     rw [hA'] at h1
     refine (CloneKn ⟨bk,ok,none⟩ r.k.c r.k.z W h1 (by omega)).mono fun e w' ⟨v,he,ho,hb2⟩=>?_
     obtain ⟨g,c,rfl,hg,hl⟩:=qqh ho (by omega)
     exact ⟨g,c,he,hg,ho,hb2⟩
    have HFK:Hid (∀ c,c < 3→w.cell? ⟨bk,ok + p * 3 + c,none⟩=some (qaz r.k.z[p]!)[c]!):=fk
    obtain ⟨ab,hab⟩:∃ ab,addB r.k.z[p]!.kn m.lo m.hi m.ats=ab:=⟨_,rfl⟩
    rw [hab] at HAd HOKP HAD
    obtain ⟨e1,he1⟩:∃ e1,(if ab then (0:Int) else 2)=e1:=⟨_,rfl⟩
    obtain ⟨e2,he2⟩:∃ e2,(if qas m.mks r.n=0 then (0:Int) else 2)=e2:=⟨_,rfl⟩
    rw [he1] at HAd
    rw [he2] at HTl
    have HE1:=hI he1
    have HE2:=hI he2
    have HPK:=hI hpk
    have HBK:=hI hbk
    clear hab h hm hf hk hh hp hA fk hfr he1 he2 hk20 hbk
    rw [hcs,hcm]
    go_enter Tryz.func9,Tryz.ntmps9
    rw [←hcs,←hcm]
    clear hcs hcm
    have HX:=hI (BoxO.init w cs cm qbp)
    simp only [qbp] at HX
    have x1:=HX.out.r.box hsz
    have x2:=HX.out.r.rowAt
    have x3:=HX.out.m.box hsm
    have x4:=HX.out.m.rowAt
    have x5:=HX.out.m.at_ 0 HM0.out
    go_upto_region 3 with (go_at_call 29;refine (HH.out _ HX.out.r.b).mono ?_;rintro _ w1 ⟨rfl,hb⟩;have HX1:=hI (HX.out.next hb);clear hb x1 x2 x3 x4 x5)
    clear HX HH HM0
    have HAdd:Hid (∀ W,Below w1.heap.size w1 W→Calls Tryz.prog 30 #[.agg (qaz r.k.z[p]!).toArray,.int .i64 m.lo,.int .i64 m.hi,.slice m.aA m.ats.size m.aC] W fun e w'=>(∃ x:KE,e=.returned (.tuple #[.agg (qaz x).toArray,.int .i64 e1])∧(ab=true→AddO r m p w1.heap.size x w'))∧Below W.heap.size W w'):=fun W hb=>(HAd.out W (qaa HX1.out.r.b hb)).mono fun e w' ⟨⟨x,he,ha⟩,hb2⟩=>⟨⟨x,he,fun q=>(ha q).at_ hb.size (ha q).rd⟩,hb2⟩
    clear HAd
    go_cut [6,7] from 22 to 38 (fun v6 v7 wx=>∃ (g:Nat) (x:KE),v6=.pointer (some ⟨g,0,none⟩)∧v7=.int .i64 e1∧Hid (ab=true→AddO r m p w1.heap.size x wx)∧Hid (wx.heap[g]?=some (.cells (qaz x).toArray 66 (0,0)))∧Hid (w1.heap.size≤g)∧Hid (Below w1.heap.size w1 wx))
    case first =>
     have hb0:Below w1.heap.size w1 w1:=Below.refl _ _
     obtain ⟨u,hu⟩:∃ u,r.k.z[p]! = u:=⟨_,rfl⟩
     have KS:Hid (∀ W,Below w1.heap.size w1 W→Below w1.heap.size w1 W∧W.cell? ⟨w.heap.size,9,none⟩=some (.slice (some ⟨bk,ok,none⟩) r.k.z.size r.k.c)∧W.cell? ⟨w.heap.size + 1,1,none⟩=some (.int .i64 ((p:Int) + 1))∧W.cell? ⟨w.heap.size + 1,9,none⟩=some (.int .i64 m.lo)∧W.cell? ⟨w.heap.size + 1,10,none⟩=some (.int .i64 m.hi)∧W.cell? ⟨w.heap.size + 1,11,none⟩=some (.slice m.aA m.ats.size m.aC)∧W.cell? ⟨bk,ok + p * 3,none⟩=some (.int .i64 u.base)∧W.cell? ⟨bk,ok + p * 3 + 1,none⟩=some (.slice u.r.A u.r.z.size u.r.c)∧W.cell? ⟨bk,ok + p * 3 + 2,none⟩=some (.slice u.a.A u.a.z.size u.a.c)):=fun W hb=>by
      have hx:=HX1.out.next hb
      have hw:=hx.r.b
      have hq:∀ c,c < 3→W.cell? ⟨bk,ok + p * 3 + c,none⟩=some (qaz u)[c]!:=fun c hc=>(hw.cell (p:=⟨bk,ok + p * 3 + c,none⟩) HBK.out).trans (hu ▸ HFK.out c hc)
      exact ⟨hb,hx.r.at_ 9 HQ9.out,hx.m.at_ 1 HM1.out,hx.m.at_ 9 HM9.out,hx.m.at_ 10 HM10.out,hx.m.at_ 11 HM11.out,hq 0 (by omega),hq 1 (by omega),hq 2 (by omega)⟩
     rw [hu] at HAdd
     simp only [qaz] at HAdd
     clear hu
     go_region_held3 (fun W=>Below w1.heap.size w1 W∧W.cell? ⟨w.heap.size,9,none⟩=some (.slice (some ⟨bk,ok,none⟩) r.k.z.size r.k.c)∧W.cell? ⟨w.heap.size + 1,1,none⟩=some (.int .i64 ((p:Int) + 1))∧W.cell? ⟨w.heap.size + 1,9,none⟩=some (.int .i64 m.lo)∧W.cell? ⟨w.heap.size + 1,10,none⟩=some (.int .i64 m.hi)∧W.cell? ⟨w.heap.size + 1,11,none⟩=some (.slice m.aA m.ats.size m.aC)∧W.cell? ⟨bk,ok + p * 3,none⟩=some (.int .i64 u.base)∧W.cell? ⟨bk,ok + p * 3 + 1,none⟩=some (.slice u.r.A u.r.z.size u.r.c)∧W.cell? ⟨bk,ok + p * 3 + 2,none⟩=some (.slice u.a.A u.a.z.size u.a.c)) (exact KS.out _ (by first | assumption | exact Below.drew (by assumption) | exact qab (by first | assumption | exact Below.drew (by assumption)) _ | exact (qab (by assumption) _).drew | exact ((Below.setCell (p:=⟨w1.heap.size,0,none⟩) (by assumption) (Nat.le_refl _) _).setCell (p:=⟨w1.heap.size,1,none⟩) (Nat.le_refl _) _).setCell (p:=⟨w1.heap.size,2,none⟩) (Nat.le_refl _) _))
      (first
        | (go_at_call 30;((with_reducible refine (HAdd.out _ (by first | assumption | exact Below.drew (by assumption) | exact qab (by assumption) _ | exact (qab (by assumption) _).drew)).mono ?_);rintro e wa ⟨⟨x,rfl,hax⟩,hba⟩;have hbA:Below w1.heap.size w1 wa:=qaa (by first | assumption | exact Below.drew (by assumption) | exact qab (by assumption) _ | exact (qab (by assumption) _).drew) hba;have HAX:=hI hax;clear hax;(try (have hq:wa.heap[w1.heap.size]?=some (.cells #[.int .i64 0,.slice none 0 0,.slice none 0 0] 66 (0,0)):=(hba.block w1.heap.size (by simp)).trans (heap_alloc_new w1 _);have z0:wa.cell? ⟨w1.heap.size,0,none⟩=some (.int .i64 0):=(cell_of_row wa _ 0 _ _ (0,0) hq).trans rfl;have z1:wa.cell? ⟨w1.heap.size,1,none⟩=some (.slice none 0 0):=(cell_of_row wa _ 1 _ _ (0,0) hq).trans rfl;have z2:wa.cell? ⟨w1.heap.size,2,none⟩=some (.slice none 0 0):=(cell_of_row wa _ 2 _ _ (0,0) hq).trans rfl;have y0:wa.frozen? ⟨w1.heap.size,0,none⟩=false:=(by simp [World.frozen?,hq]);have y1:wa.frozen? ⟨w1.heap.size,1,none⟩=false:=(by simp [World.frozen?,hq]);have y2:wa.frozen? ⟨w1.heap.size,2,none⟩=false:=(by simp [World.frozen?,hq]);have HQ:=hI hq;clear hq));clear hba)))
     ·go_wp2
      go_meet
      have hwa:=hbA.size
      exact ⟨wa.heap.size,x,rfl,rfl,fun q=>(HAX.out q).at_ (Nat.le_refl _) ((HAX.out q).rd.below (bel1 wa _)),heap_alloc_new wa _,hwa,qab hbA _⟩
     ·go_wp2
      go_meet
      have hbS:=((hbA.setCell (p:=⟨w1.heap.size,0,none⟩) (Nat.le_refl _) (.int .i64 x.base)).setCell (p:=⟨w1.heap.size,1,none⟩) (Nat.le_refl _) (.slice x.r.A x.r.z.size x.r.c)).setCell (p:=⟨w1.heap.size,2,none⟩) (Nat.le_refl _) (.slice x.a.A x.a.z.size x.a.c)
      exact ⟨w1.heap.size,x,rfl,rfl,fun q=>(HAX.out q).at_ (Nat.le_refl _) (qwg HQ.out (HAX.out q).rd _ _ _),box_set HQ.out _ _ _,Nat.le_refl _,hbS⟩
    case rest =>
     obtain ⟨g,x,rfl,rfl,HAX,HGX,HG1,HBx⟩:=hcut
     have HXx:=hI (HX1.out.next HBx.out)
     clear HAdd
     have c10:=HXx.out.r.at_ 10 HQ10.out
     have c0:=HXx.out.r.at_ 0 HQ0.out
     have m1:=HXx.out.m.at_ 1 HM1.out
     have m12:=HXx.out.m.at_ 12 HM12.out
     go_upto_region 6 with (first
      | (go_at_call 31;refine (HTl.out _ HXx.out.r.b).mono ?_;rintro _ w2 ⟨⟨y,rfl,hy⟩,hb⟩;have HY:=hI hy;have HB2:=hI hb;have HX2:=hI (HXx.out.next hb);clear hb hy c10 c0 m1 m12;have c11:=HX2.out.r.at_ 11 HQ11.out;have c0:=HX2.out.r.at_ 0 HQ0.out;have m1:=HX2.out.m.at_ 1 HM1.out;have m13:=HX2.out.m.at_ 13 HM13.out)
      | (go_at_call 32;refine (HFr.out _ HX2.out.r.b).mono ?_;rintro _ w3 ⟨⟨f,rfl,hfz,hfo⟩,hb⟩;have HF1:=hI hfz;have HF2:=hI hfo;have HB3:=hI hb;have HX3:=hI (HX2.out.next hb);clear hb hfz hfo c11 c0 m1 m13;have x1:=HX3.out.r.box hsz;have x2:=HX3.out.r.rowAt;have x3:=HX3.out.z.box (n:=18) rfl))
     clear HTl HFr HXx HX2
     by_cases ha:ab=true
     ·obtain rfl:0=e1:=by rw [←HE1.out,if_pos ha]
      by_cases hx:qas m.mks r.n=0
      ·obtain rfl:0=e2:=by rw [←HE2.out,if_pos hx]
       obtain ⟨hax,has,han,har⟩:=HAX.out ha
       obtain ⟨hy1,hy2⟩:=HY.out hx
       have hokp:=HAD.out ha hx
       have hok:okPr r m=true:=by rw [HOKP.out,ha,decide_eq_true hx];rfl
       have HAX1:=hI hax
       have HAX2:=hI has
       have HAX3:=hI han
       have HAX4:=hI har
       have HY1:=hI hy1
       have HY2:=hI hy2
       have HO:=hI hokp
       have HOK:=hI hok
       clear ha hx hax has han har hy1 hy2 hokp hok HAX HY HE1 HE2 HOKP HAD x1 x2 x3
       have c9:=HX3.out.r.at_ 9 HQ9.out
       go_upto_region 9 with (go_at_call 33;refine (HCl.out _ HX3.out.r.b).mono ?_;rintro _ w4 ⟨K,cK,rfl,hK1,hown,hb⟩;have HB4:=hI hb;have HX4:=hI (HX3.out.next hb);have HO4:=hI hown;have HK:=hI hK1;clear hb hown hK1 c9;have c9:=HX4.out.r.at_ 9 HQ9.out;have f9:=HX4.out.r.froz 9)
       have HZ3:=HX3.out.z.lt
       obtain ⟨B,hB⟩:∃ B,B=w.heap.size + 1 + 1 + 1:=⟨_,rfl⟩
       have hBK:B≤K:=by have:=HK.out;omega
       have own4:=qdh HO4.out (show B≤w3.heap.size by omega)
       have own5:=qcx own4 (show w.heap.size < B by omega) 9 (.slice (some ⟨K,0,none⟩) r.k.z.size cK)
       have HX5:=hI (HX4.out.setR 9 (.slice (some ⟨K,0,none⟩) r.k.z.size cK))
       obtain ⟨cs5,hcs5⟩:∃ c,c=cs.setIfInBounds 9 (.slice (some ⟨K,0,none⟩) r.k.z.size cK):=⟨_,rfl⟩
       rw [←hcs5] at HX5
       have H5:Hid (∀ j,B≤j→j < w3.heap.size→(w4.setCell ⟨w.heap.size,9,none⟩ (.slice (some ⟨K,0,none⟩) r.k.z.size cK)).heap[j]?=w3.heap[j]?):=hI (fun j j1 j2=>(heap_setCell_other _ ⟨w.heap.size,9,none⟩ j _ (by simp;omega)).trans (HB4.out.block j j2))
       have hs5:w3.heap.size≤(w4.setCell ⟨w.heap.size,9,none⟩ (.slice (some ⟨K,0,none⟩) r.k.z.size cK)).heap.size:=by have:=HB4.out.size;simpa using this
       obtain ⟨w5,hw5⟩:∃ W,W=w4.setCell ⟨w.heap.size,9,none⟩ (.slice (some ⟨K,0,none⟩) r.k.z.size cK):=⟨_,rfl⟩
       rw [←hw5] at own5 HX5 H5 hs5 ⊢
       have HO5:=hI own5
       have HB:=hI hB
       have HC5:=hI hcs5
       clear hw5 c9 f9 own4 own5 HO4 HX4
       have q9:cs5[9]?=some (.slice (some ⟨K,0,none⟩) r.k.z.size cK):=by rw [hcs5];simp [hsz]
       have c9:=HX5.out.r.at_ 9 q9
       have m1:=HX5.out.m.at_ 1 HM1.out
       have hgx:=qdf HGX.out
       have hw1B:B≤w1.heap.size:=by have:=HX1.out.z.lt;omega
       have HGX5:Hid (w5.heap[g]?=some (.cells (qaz x).toArray 66 (0,0))):=hI ((H5.out g (by have:=HG1.out;omega) (by have:=HB2.out.size;have:=HB3.out.size;omega)).trans ((HB3.out.block g (by have:=HB2.out.size;omega)).trans ((HB2.out.block g hgx).trans HGX.out)))
       have g0:w5.cell? ⟨g,0,none⟩=some (.int .i64 x.base):=(cell_of_row w5 g 0 _ _ (0,0) HGX5.out).trans rfl
       have g1:w5.cell? ⟨g,1,none⟩=some (.slice x.r.A x.r.z.size x.r.c):=(cell_of_row w5 g 1 _ _ (0,0) HGX5.out).trans rfl
       have g2:w5.cell? ⟨g,2,none⟩=some (.slice x.a.A x.a.z.size x.a.c):=(cell_of_row w5 g 2 _ _ (0,0) HGX5.out).trans rfl
       obtain ⟨y0,k0⟩:=qlp HO5.out (j:=p * 3) (by omega)
       obtain ⟨y1,k1⟩:=qlp HO5.out (j:=p * 3 + 1) (by omega)
       obtain ⟨y2,k2⟩:=qlp HO5.out (j:=p * 3 + 2) (by omega)
       have q0:=HO5.out.frozenAt (p * 3)
       have q1:=HO5.out.frozenAt (p * 3 + 1)
       have q2:=HO5.out.frozenAt (p * 3 + 2)
       have HGB:Hid (w1.heap.size≤g):=HG1
       clear hB hcs5 q9 hgx HGX HG1 HGX5
       go_upto_region 10 with fail
       have HX6:=hI (HX5.out.put3 (by have:=HB.out;omega:w.heap.size + 1 + 1 + 1≤K) p x)
       have HO6:=hI (own_put3 HO5.out HPK.out x)
       have H6:Hid (∀ j,B≤j→j < w3.heap.size→(put3 w5 K p x).heap[j]?=w3.heap[j]?):=hI (fun j j1 j2=>(qoa w5 K p x (by have:=HK.out;omega)).trans (H5.out j j1 j2))
       have hs6:w3.heap.size≤(put3 w5 K p x).heap.size:=by rw [qmt];exact hs5
       unfold put3 at HX6 HO6 H6 hs6
       obtain ⟨w6,hw6⟩:∃ W,W=(((w5.setCell ⟨K,p * 3,none⟩ (.int .i64 x.base)).setCell ⟨K,p * 3 + 1,none⟩ (.slice x.r.A x.r.z.size x.r.c)).setCell ⟨K,p * 3 + 2,none⟩ (.slice x.a.A x.a.z.size x.a.c)):=⟨_,rfl⟩
       rw [←hw6] at HX6 HO6 H6 hs6 ⊢
       clear hw6 c9 m1 g0 g1 g2 k0 k1 k2 q0 q1 q2 HX5 HO5 H5 hs5
       have q10:cs5[10]?=some (.slice r.m.A r.m.z.size r.m.c):=by rw [HC5.out,Array.getElem?_setIfInBounds,if_neg (by omega)];exact HQ10.out
       have q11:cs5[11]?=some (.slice r.fr.A r.fr.z.size r.fr.c):=by rw [HC5.out,Array.getElem?_setIfInBounds,if_neg (by omega)];exact HQ11.out
       have c10:=HX6.out.r.at_ 10 q10
       have c11:=HX6.out.r.at_ 11 q11
       have f10:=HX6.out.r.froz 10
       have f11:=HX6.out.r.froz 11
       clear q10 q11
       go_upto_region 11 with fail
       have HX7:=hI ((HX6.out.setR 10 (.slice y.A y.z.size y.c)).setR 11 (.slice f.A f.z.size f.c))
       have hBw:w.heap.size < B:=by have:=HB.out;omega
       have HO7:=hI (qcx (qcx HO6.out hBw 10 (.slice y.A y.z.size y.c)) hBw 11 (.slice f.A f.z.size f.c))
       have H7:Hid (∀ j,B≤j→j < w3.heap.size→((w6.setCell ⟨w.heap.size,10,none⟩ (.slice y.A y.z.size y.c)).setCell ⟨w.heap.size,11,none⟩ (.slice f.A f.z.size f.c)).heap[j]?=w3.heap[j]?):=hI (fun j j1 j2=>(heap_setCell_other _ ⟨w.heap.size,11,none⟩ j _ (by simp;omega)).trans ((heap_setCell_other _ ⟨w.heap.size,10,none⟩ j _ (by simp;omega)).trans (H6.out j j1 j2)))
       have hs7:w3.heap.size≤((w6.setCell ⟨w.heap.size,10,none⟩ (.slice y.A y.z.size y.c)).setCell ⟨w.heap.size,11,none⟩ (.slice f.A f.z.size f.c)).heap.size:=by simpa using hs6
       obtain ⟨w7,hw7⟩:∃ W,W=(w6.setCell ⟨w.heap.size,10,none⟩ (.slice y.A y.z.size y.c)).setCell ⟨w.heap.size,11,none⟩ (.slice f.A f.z.size f.c):=⟨_,rfl⟩
       rw [←hw7] at HX7 HO7 H7 hs7 ⊢
       clear hw7 c10 c11 f10 f11 HX6 HO6 H6 hs6
       obtain ⟨cs7,hcs7⟩:∃ c,c=(encP (rpP r p K cK x y f)).toArray:=⟨_,rfl⟩
       have hset:(cs5.setIfInBounds 10 (.slice y.A y.z.size y.c)).setIfInBounds 11 (.slice f.A f.z.size f.c)=cs7:=by
        rw [HC5.out,HCS.out,hcs7]
        simp [encP,rpP]
       rw [hset] at HX7
       have hs2:=HB2.out.size
       have hs3:=HB3.out.size
       have hsx:=HBx.out.size
       have HS1:Hid (SepR r B w7 (rpP r p K cK x y f)):=hI (sep_prom HO7.out ((HAX3.out.mono hw1B).rd ((HAX4.out.below HB2.out).below HB3.out) H7.out hs7) (HAX3.out.mono hw1B)
        (HY1.out.next (by omega) (by omega) (fun j j1 j2=>(H7.out j (by omega) (by omega)).trans (HB3.out.block j j2)))
        (HF2.out.next (by omega) hs7 (fun j j1 j2=>H7.out j (by omega) j2)))
       have HPR:Hid (PromR r m (rpP r p K cK x y f)):=hI (prom_of HO.out HAX1.out HAX2.out HY2.out HF1.out)
       have HFM:=hI (HPR.out.few HO.out HFP.out)
       have HCK:=hI (HPR.out.chk HO.out HFP.out)
       have HR7:=hI (HS1.out.rd (HRD.out.below HX7.out.r.b))
       have HRF:=hI (dropL (R:=RefR (rpP r p K cK x y f)) (fun W a _=>qon _ W a HFM.out HCK.out) hcs7 HR7.out HFM.out.c)
       have hsz7:=(rowP hcs7).1
       have x1:=HX7.out.r.box hsz7
       have x2:=HX7.out.r.rowAt
       clear hset hcs7 hs2 hs3 hsx HO7 H7 hs7 HAX1 HAX2 HAX3 HAX4 HY1 HY2 HF1 HF2 HB2 HB3 HB4 HBx HK HGB hw1B hBK HX3 HX1 HZ3
       go_wp2_with (first
        | (go_at_call 35;refine HRF.out.mono ?_;rintro _ w8 ⟨⟨b,csb,rfl,hcsb,hrf,hsp⟩,hb8⟩;have HX8:=hI (HX7.out.next hb8);have HRB:=hI hrf;have HS2:=hI hsp;have HB8:=hI hb8;have HD:=hI (dropL (R:=DropR b) (fun W a c=>qrv b W a c) hcsb (HS2.out.rd (HR7.out.below hb8)) (HRB.out.few HCK.out HFM.out));clear hrf hsp hb8 hcsb x1 x2)
        | (go_at_call 34;refine HD.out.mono ?_;rintro _ w9 ⟨⟨s,csd,rfl,hcsd,hdr,hsp⟩,hb9⟩;have HX9:=hI (HX8.out.next hb9);have HDR:=hI hdr;have HS3:=hI hsp;have HB9:=hI hb9;have HCD:=hI hcsd;obtain ⟨hszD,honeD⟩:=rowP hcsd;clear hdr hsp hb9 hcsd;have x3:=HX9.out.z.box (n:=18) rfl))
       refine bodyPost_ret (qav rfl rfl (setRow_heap _ _ _ _ _ _ HX9.out.z.row) hszD) rfl ?_
       exact onPr_good HCD.out rfl HOK.out HPR.out HRB.out HDR.out (by rw [←HB.out];exact HS1.out) HS2.out HS3.out HX7.out.r.b HB8.out HB9.out (by omega) HX7.out.z.lt
      ·obtain rfl:2=e2:=by rw [←HE2.out,if_neg hx]
       have hok:okPr r m=false:=by rw [HOKP.out,decide_eq_false hx,Bool.and_false]
       go_wp2
       refine bodyPost_ret (qav rfl rfl (setRow_heap _ _ _ _ _ _ HX3.out.z.row) hsz) rfl ?_
       exact qla HCS.out rfl hok HX3.out.r.b (by omega)
     ·obtain rfl:2=e1:=by rw [←HE1.out,if_neg ha]
      have hok:okPr r m=false:=by rw [HOKP.out];rw [Bool.not_eq_true] at ha;rw [ha,Bool.false_and]
      go_wp2
      refine bodyPost_ret (qav rfl rfl (setRow_heap _ _ _ _ _ _ HX3.out.z.row) hsz) rfl ?_
      exact qla HCS.out rfl hok HX3.out.r.b (by omega)
   ·have hok:okPr r m=false:=by unfold okPr;rw [Bool.not_eq_true] at hh;rw [hh,Bool.and_false];rfl
    rw [Bool.not_eq_true] at hh
    rw [hh] at HH
    clear h hm hf hk hh
    rw [hcs,hcm]
    go_enter Tryz.func9,Tryz.ntmps9
    rw [←hcs,←hcm]
    clear hcs hcm
    have HX:=hI (BoxO.init w cs cm qbp)
    simp only [qbp] at HX
    have x1:=HX.out.r.box hsz
    have x2:=HX.out.r.rowAt
    have x3:=HX.out.m.box hsm
    have x4:=HX.out.m.rowAt
    have x5:=HX.out.m.at_ 0 HM0.out
    go_wp2_with (go_at_call 29;refine (HH.out _ HX.out.r.b).mono ?_;rintro _ w1 ⟨rfl,hb⟩;have HX1:=hI (HX.out.next hb);clear hb x1 x2 x3 x4 x5;have x1:=HX1.out.r.box hsz;have x2:=HX1.out.r.rowAt;have x3:=HX1.out.z.box (n:=18) rfl)
    refine bodyPost_ret (qav rfl rfl (setRow_heap _ _ _ _ _ _ HX1.out.z.row) hsz) rfl ?_
    exact qla HCS.out rfl hok HX1.out.r.b (by omega)
  ·have hok:okPr r m=false:=by unfold okPr;rw [decide_eq_false hk];rfl
   have hkn:(m.k != 10)=true:=by simp [hk]
   have HM0:Hid (cm[0]?=some (.int .i64 m.k)):=by show _=_;rw [HCM.out];rfl
   clear h hm hf hk
   rw [hcs,hcm]
   go_enter Tryz.func9,Tryz.ntmps9
   rw [←hcs,←hcm]
   clear hcs hcm
   have HX:=hI (BoxO.init w cs cm qbp)
   simp only [qbp] at HX
   have x1:=HX.out.r.box hsz
   have x2:=HX.out.r.rowAt
   have x3:=HX.out.z.box (n:=18) rfl
   have x5:=HX.out.m.at_ 0 HM0.out
   go_wp2
   refine bodyPost_ret (qav rfl rfl (setRow_heap _ _ _ _ _ _ HX.out.z.row) hsz) rfl ?_
   exact qla HCS.out rfl hok HX.out.r.b (by omega)
 exact hgoal _ _ hcs hcm
end Go.Proofs.YtlkmagmdhopcjaaGreat
namespace Go.Proofs.YtlkmagmdhopcjaaGreat
open Go.RowKit Go.Sort Go.Lib
set_option maxRecDepth 100000
attribute [local go_sem ↓] qak qai qau
attribute [local go_sem] qao qaj qah qaq qbd qbf
def StartO (P:RP→Int→RP→List OU→Prop) (t:RP) (id:Int) (W:World) (e:Ending) (w':World):Prop :=
 (∃ (s:RP) (y:RW OU),e=.returned (.tuple #[.agg (encP s).toArray,.slice y.A y.z.size y.c])∧P t id s y.z.toList∧SepR t W.heap.size w' s∧RdN qcg 15 w' y)∧Below W.heap.size W w'
def TickO (P:RP→Int→RP→List OU→Prop) (r:RP) (w:World) (e:Ending) (w':World):Prop :=
 (∃ (s:RP) (x:RW OU),e=.returned (.tuple #[.agg (encP s).toArray,.slice x.A x.z.size x.c])∧TickR P r s x w'∧SepR r w.heap.size w' s∧RdN qcg 15 w' x)∧Below w.heap.size w w'
theorem tick_good {P:RP→Int→RP→List OU→Prop} {r r1 s2 s:RP} {pm:PM} {os:List OU} {x:RW OU} {w W:World} {g:Nat} {c:Array Value} (hc:c=(encP s).toArray) (hk:chkR r=true) (h1:RefR r r1) (h2:AgedR r1 s2)
 (h3:qgj P s2 (dueR s2) (dueR s2).size s os) (h4:x.z=(os ++ (qiz s s.e.z.size ++ allO s pm)).toArray) (h5:PrmM s pm) (h6:RdM W pm) (h7:SepR r (g + 1) W s) (h8:RdN qcg 15 W x) (f1:FreshA (g + 1) x.A) (f2:FreshA (g + 1) pm.aA) (f3:FreshA (g + 1) pm.mA)
 (hb:Below w.heap.size w W) (hg:w.heap.size≤g):TickO P r w (.returned (.tuple #[.agg c,.slice x.A x.z.size x.c])) (W.setRow g c):=by
 subst hc
 have hh:∀ b,b≠g→(W.setRow g (encP s).toArray).heap[b]?=W.heap[b]?:=fun b hb=>setRow_other _ _ b _ hb
 have hs:(W.setRow g (encP s).toArray).heap.size=W.heap.size:=by simp
 refine ⟨⟨s,x,rfl,Or.inr ⟨hk,r1,s2,pm,os,h1,h2,h3,h4,h5,?_⟩,?_,?_⟩,hb.trans ⟨rfl,rfl,rfl,by simp,fun j hj=>setRow_other _ _ j _ (by omega)⟩⟩
 ·exact h6.far hs (fun q hq=>by have:=f2 q hq;omega) (fun q hq=>by have:=f3 q hq;omega) hh
 ·exact (h7.congr hs (fun j hj=>hh j (by omega))).monoG (by omega)
 ·exact h8.farG hs (fun _ q hq=>by have:=f1 q hq;omega) hh
structure TickL (P:RP→Int→RP→List OU→Prop) (w3:World) (s2:RP) (y:RW Int) (k:Nat) (t:RP) (ct:Array Value) (x:RW OU) (W:World):Prop where
 st:qgj P s2 (dueR s2) k t x.z.toList
 rx:RdN qcg 15 W x
 fx:FreshA (w3.heap.size + 1) x.A
 bt:W.heap[w3.heap.size]?=some (.cells ct 35 (0,0))
 ct:ct=(encP t).toArray
 sp:SepR s2 (w3.heap.size + 1) W t
 b3:Below w3.heap.size w3 W
 ry:RdJ W y
theorem TickL.next {P:RP→Int→RP→List OU→Prop} {w3:World} {s2 t:RP} {y:RW Int} {k:Nat} {ct:Array Value} {x:RW OU} {W W':World} (h:TickL P w3 s2 y k t ct x W) (hb:Below W.heap.size W W'):TickL P w3 s2 y k t ct x W' :=
 ⟨h.st,h.rx.below hb,h.fx,(hb.block _ (qal h.bt)).trans h.bt,h.ct,h.sp.below hb,qaa h.b3 hb,h.ry.below hb⟩
theorem TickL.rd {P:RP→Int→RP→List OU→Prop} {w3:World} {s2 t:RP} {y:RW Int} {k:Nat} {ct:Array Value} {x:RW OU} {W:World} (h:TickL P w3 s2 y k t ct x W) (h2:RdP w3 s2):RdP W t:=h.sp.rd (h2.below h.b3)
theorem TickL.step {P:RP→Int→RP→List OU→Prop} {w3:World} {s2 t s:RP} {y:RW Int} {k:Nat} {ct cs:Array Value} {x o z:RW OU} {W W1 W2:World} (h:TickL P w3 s2 y k t ct x W) (hy:FreshA (w3.heap.size + 1) y.A)
 (hp:P t (dueR s2)[k]! s o.z.toList) (hc:cs=(encP s).toArray) (hs:SepR t W.heap.size W1 s) (h1:Below W.heap.size W W1) (h2:Below W1.heap.size W1 W2) (hz:z.z=x.z ++ o.z) (rz:RdN qcg 15 W2 z) (fz:FreshA (w3.heap.size + 1) z.A):TickL P w3 s2 y (k + 1) s cs z (W2.setRow w3.heap.size cs):=by
 have hlt:=qal h.bt
 have hh:∀ b,b≠w3.heap.size→(W2.setRow w3.heap.size cs).heap[b]?=W2.heap[b]?:=fun b hb=>setRow_other _ _ b _ hb
 have hsz:(W2.setRow w3.heap.size cs).heap.size=W2.heap.size:=by simp
 have hb:=qaa h1 h2
 refine ⟨⟨t,x.z.toList,o.z.toList,h.st,hp,by rw [hz];simp⟩,rz.farG hsz (fun _ q hq=>by have:=fz q hq;omega) hh,fz,setRow_heap _ _ _ _ _ _ ((hb.block _ hlt).trans h.bt),hc,?_,?_,?_⟩
 ·exact ((h.sp.trans hs h1 (by omega)).below h2).congr hsz (fun j hj=>hh j (by omega))
 ·exact (qaa h.b3 hb).trans ⟨rfl,rfl,rfl,by simp,fun j hj=>hh j (by omega)⟩
 ·exact (h.ry.below hb).farG hsz (fun _ q hq=>by have:=hy q hq;omega) hh
set_option maxHeartbeats 16000000 in
theorem qlq (P:RP→Int→RP→List OU→Prop) (r:RP) (w:World) (h:RdP w r) (hf:FewM r)
 (HST:∀ r1 s2,chkR r=true→RefR r r1→AgedR r1 s2→∀ k t os,k < (dueR s2).size→qgj P s2 (dueR s2) k t os→∀ W,RdP W t→Calls Tryz.prog 53 #[.agg (encP t).toArray,.int .i64 (dueR s2)[k]!] W fun e w'=>StartO P t (dueR s2)[k]! W e w')
 (HGD:∀ r1 s2,chkR r=true→RefR r r1→AgedR r1 s2→∀ k t os,k≤(dueR s2).size→qgj P s2 (dueR s2) k t os→chkR t=true∧FewC t∧os.length≤9 * k) :
 Calls Tryz.prog 16 #[.agg (encP r).toArray] w fun e w'=>TickO P r w e w':=by
 have HC:Hid (∀ W,Below w.heap.size w W→Calls Tryz.prog 15 #[.agg (encP r).toArray] W fun e w'=>e=.returned (.int .i64 (repE r))∧Below W.heap.size W w'):=fun W hb=>qbh r W (h.below hb) hf.c
 have HRD:=hI h
 have HRF:Hid (chkR r=true→∀ W,Below w.heap.size w W→Calls Tryz.prog 35 #[.agg (encP r).toArray] W fun e w'=>(∃ (s:RP) (c:Array Value),e=.returned (.agg c)∧c=(encP s).toArray∧RefR r s∧SepR r W.heap.size w' s)∧Below W.heap.size W w'):=fun hc W hb =>
  dropL (R:=RefR r) (fun W a _=>qon r W a hf hc) rfl (h.below hb) hf.c
 have HRC:=hI (fun (hc:chkR r=true) (r1:RP) (h1:RefR r r1)=>(⟨h1.chk hc hf,h1.few hc hf⟩:chkR r1=true∧FewC r1))
 have HAG:Hid (∀ (r1:RP) (c:Array Value),c=(encP r1).toArray→FewC r1→∀ W,RdP W r1→Calls Tryz.prog 26 #[.agg c] W fun e w'=>(∃ (s:RP) (c:Array Value),e=.returned (.agg c)∧c=(encP s).toArray∧AgedR r1 s∧SepR r1 W.heap.size w' s)∧Below W.heap.size W w'):=fun r1 c e f W a =>
  dropL (R:=AgedR r1) (fun W a f=>qup r1 W a f) e a f
 have HDU:Hid (∀ (s2:RP) (c:Array Value),c=(encP s2).toArray→FewC s2→∀ W,RdP W s2→Calls Tryz.prog 25 #[.agg c] W fun e w'=>(∃ y:RW Int,e=.returned (.slice y.A y.z.size y.c)∧y.z=dueR s2∧RdJ w' y∧FreshA W.heap.size y.A)∧Below W.heap.size W w'):=fun s2 c e f W a=>by
  rw [e]
  refine (due_any s2 W a f).mono fun e w' ⟨⟨v,he,ho⟩,hb⟩=>?_
  have ho':w'.ownsRow W.heap.size 3 1 v (dueR s2).toList.length ((dueR s2).toList.map (Value.int .i64)):=by simpa using ho
  obtain ⟨y,rfl,hz,hr⟩:=qdr ho'
  refine ⟨⟨y,he,by simpa using hz,hr,fun q hq=>?_⟩,hb⟩
  obtain ⟨_,⟨h1,_⟩ | ⟨g,cap,cur,h1,hB,_⟩⟩:=ho
  ·have:y.A=none:=by unfold RW.v at h1;injection h1
   rw [this] at hq;cases hq
  ·have:y.A=some ⟨g,0,none⟩:=by unfold RW.v at h1;injection h1
   rw [this] at hq;injection hq with hq;rw [←hq];exact hB
 have HTE:Hid (∀ (s:RP) (c:Array Value),c=(encP s).toArray→FewC s→chkR s=true→∀ W,RdP W s→Calls Tryz.prog 27 #[.agg c] W fun e w'=>(∃ (x:RW OU) (pm:PM),e=.returned (.slice x.A x.z.size x.c)∧ToldR s W.heap.size x pm w')∧Below W.heap.size W w'):=fun s c e f k W a=>by
  rw [e]
  exact qqk s W a f k
 have HS:Hid (∀ r1 s2,chkR r=true→RefR r r1→AgedR r1 s2→∀ k t os,k < (dueR s2).size→qgj P s2 (dueR s2) k t os→∀ (c:Array Value),c=(encP t).toArray→∀ W,RdP W t→Calls Tryz.prog 53 #[.agg c,.int .i64 (dueR s2)[k]!] W fun e w'=>(∃ (s:RP) (cs:Array Value) (y:RW OU),e=.returned (.tuple #[.agg cs,.slice y.A y.z.size y.c])∧cs=(encP s).toArray∧P t (dueR s2)[k]! s y.z.toList∧SepR t W.heap.size w' s∧RdN qcg 15 w' y)∧Below W.heap.size W w'):=fun r1 s2 hcr a b k t os h1 h2 c e W h3=>by
  rw [e]
  exact (HST r1 s2 hcr a b k t os h1 h2 W h3).mono fun e w' ⟨⟨s,y,h4,h5,h6,h7⟩,hb⟩=>⟨⟨s,_,y,h4,rfl,h5,h6,h7⟩,hb⟩
 have HG:=hI HGD
 obtain ⟨cs,hcs⟩:∃ cs,cs=(encP r).toArray:=⟨_,rfl⟩
 obtain ⟨hsz,hone⟩:=rowP hcs
 have HCS:=hI hcs
 rw [←hcs] at HC HRF
 clear h hf HST HGD
 have hgoal:∀ x:Array Value,cs=x→Calls Tryz.prog 16 #[.agg x] w fun e w'=>TickO P r w e w':=by
  rintro _ rfl
  simp only [encP] at hcs
  rw [hcs]
  go_enter Tryz.func16,Tryz.ntmps16
  rw [←hcs]
  clear hcs
  have HX:=hI (BoxG.fst w cs qbp 35 35)
  have HZ:=hI (BoxG.snd w cs qbp 35 35)
  simp only [qbp] at HX HZ
  have x1:=HX.out.box hsz
  have x2:=HX.out.rowAt
  by_cases hc:chkR r=true
  ·rw [qcw hc] at HC
   have HRF:=hI (HRF.out hc)
   have HRC:=hI (HRC.out hc)
   have HG:=hI (fun r1 s2=>HG.out r1 s2 hc)
   have HS:=hI (fun r1 s2=>HS.out r1 s2 hc)
   have HCK:=hI hc
   clear hc
   go_upto_region 4 with (first
    | (go_at_call 15;refine (HC.out _ HX.out.b).mono ?_;rintro _ w1 ⟨rfl,hb⟩;have HX1:=hI (HX.out.next hb);have HZ1:=hI (HZ.out.next hb);clear hb x1 x2;have x1:=HX1.out.box hsz;have x2:=HX1.out.rowAt)
    | (go_at_call 35;refine (HRF.out _ HX1.out.b).mono ?_;rintro _ w2 ⟨⟨r1,c1,rfl,hc1,hrf,hsp⟩,hb⟩;have HZ2:=hI (HZ1.out.next hb);have HRF1:=hI hrf;have HSP1:=hI hsp;have HC1:=hI hc1;have HB2:=hI hb;clear hrf hsp hc1 hb x1 x2)
    | (go_at_call 26;refine (HAG.out r1 c1 HC1.out (HRC.out r1 HRF1.out).2 w2 (HSP1.out.rd (HRD.out.below HZ2.out.b))).mono ?_;rintro _ w3 ⟨⟨s2,c2,rfl,hc2,hag,hsp⟩,hb⟩;have HZ3:=hI (HZ2.out.next hb);have HAG2:=hI hag;have HC2:=hI hc2;have HSP2:=hI (HSP1.out.trans hsp hb HB2.out.size);obtain ⟨hsz2,hone2⟩:=rowP hc2;have HB3:=hI hb;clear hag hsp hc2 hb))
   have HG1:=HZ1.out.lt
   have hZ3:=HZ3.out.lt
   have HRS:Hid (RdP w3 s2):=hI (HSP2.out.rd (HRD.out.below HZ3.out.b))
   have HK2:Hid (chkR s2=true∧FewC s2):=⟨HAG2.out.chk (HRC.out r1 HRF1.out).1,HAG2.out.few (HRC.out r1 HRF1.out).2⟩
   have HB31:Hid (w1.heap.size≤w3.heap.size):=by show _≤_;have:=HB3.out.size;have:=HB2.out.size;omega
   have HW4:Hid ((w3.alloc (.cells c2 35)).heap[w3.heap.size]?=some (.cells c2 35 (0,0))):=heap_alloc_new w3 _
   have HB4:Hid (Below w3.heap.size w3 (w3.alloc (.cells c2 35))):=bel1 w3 _
   have hs4:(w3.alloc (.cells c2 35)).heap.size=w3.heap.size + 1:=by simp
   obtain ⟨w4,hw4⟩:∃ W,W=w3.alloc (.cells c2 35):=⟨_,rfl⟩
   rw [←hw4] at HW4 HB4 hs4 ⊢
   clear hw4 HX HZ HX1
   have y1:=qbl HW4.out hsz2
   have y2:=qcf HW4.out
   go_upto_region 6 with (go_at_call 25;refine (HDU.out s2 c2 HC2.out HK2.out.2 w4 (HRS.out.below HB4.out)).mono ?_;rintro _ w5 ⟨⟨y,rfl,hyz,hyr,hyf⟩,hb⟩;have HYZ:=hI hyz;have HYR:=hI hyr;have HYF:Hid (FreshA (w3.heap.size + 1) y.A):=(by rw [hs4] at hyf;exact hyf);have HB5:=hI (qaa HB4.out hb);have HW5:Hid (w5.heap[w3.heap.size]?=some (.cells c2 35 (0,0))):=(hb.block _ (qal HW4.out)).trans HW4.out;clear hyz hyr hyf hb y1 y2)
   have hds:y.z.size≤1000:=by rw [HYZ.out];exact Nat.le_trans (qql s2) HK2.out.2.es
   go_loopw [5,7,8,9,20] (fun v5 v7 v8 v9 i wr=>∃ (k:Nat) (t:RP) (ct:Array Value) (x:RW OU),v5=.slice x.A x.z.size x.c∧i=.int .i64 k∧k≤y.z.size∧Hid (TickL P w3 s2 y k t ct x wr)) (fun _ _ _ _ i _=>y.z.size - (intOf i).toNat)
   case atStart=>exact ⟨0,s2,c2,⟨none,0,#[]⟩,rfl,rfl,Nat.zero_le _,⟨⟨rfl,rfl⟩,⟨fun h0=>absurd h0 (by decide),fun _=>rfl⟩,fun _ hq=>(by cases hq),HW5.out,HC2.out,SepR.self _ _ _,HB5.out,HYR.out⟩⟩
   case round =>
    obtain ⟨k,t,ct,x,rfl,rfl,hk,HL⟩:=hrel
    have HLC:=hI HL.out.ct
    obtain ⟨hszt,honet⟩:=rowP HL.out.ct
    have HGt:=hI (HG.out r1 s2 HRF1.out HAG2.out k t x.z.toList (by rw [←HYZ.out];exact hk) HL.out.st)
    have hxs:x.z.size≤9 * k:=by have:=HGt.out.2.2;simpa using this
    have y1:=qbl HL.out.bt hszt
    have y2:=qcf HL.out.bt
    by_cases hlt:k < y.z.size
    ·have kz:(k:Int) < (y.z.size:Int):=by omega
     obtain ⟨b,off,hA,hbl,ck⟩:=HL.out.ry.rd.at_ hlt
     have HSt:=hI (HS.out r1 s2 HRF1.out HAG2.out k t x.z.toList (by rw [←HYZ.out];exact hlt) HL.out.st ct HL.out.ct wr (HL.out.rd HRS.out))
     rw [←HYZ.out] at HSt
     obtain ⟨n,hn⟩:∃ n,y.z[k]! = n:=⟨_,rfl⟩
     rw [hn] at HSt ck
     have HN:=hI hn
     clear hn
     rw [hA]
     go_upto_region 9 with (go_at_call 53;refine HSt.out.mono ?_;rintro _ w6 ⟨⟨s,c6,o,rfl,hc6,hp,hsp,hro⟩,hb⟩;have HC6:=hI hc6;have HPS:=hI hp;have HSS:=hI hsp;have HRO:=hI hro;have HB6:=hI hb;have HL6:=hI (HL.out.next hb);obtain ⟨hsz6,hone6⟩:=rowP hc6;clear hc6 hp hsp hro hb y1 y2 ck)
     have HGs:=hI (HG.out r1 s2 HRF1.out HAG2.out (k + 1) s (x.z.toList ++ o.z.toList) (by rw [←HYZ.out];exact hlt) ⟨t,_,_,HL.out.st,by rw [←HYZ.out,HN.out];exact HPS.out,rfl⟩)
     have hos:x.z.size + o.z.size≤9 * (k + 1):=by have:=HGs.out.2.2;simpa using this
     have HW7:Hid ((w6.alloc (.cells c6 35)).heap[w6.heap.size]?=some (.cells c6 35 (0,0))):=heap_alloc_new w6 _
     have HL7:=hI (HL6.out.next (bel1 w6 (.cells c6 35)))
     have HB7:Hid (Below w6.heap.size w6 (w6.alloc (.cells c6 35))):=bel1 w6 _
     have HRO7:=hI (HRO.out.below (bel1 w6 (.cells c6 35)))
     obtain ⟨w7,hw7⟩:∃ W,W=w6.alloc (.cells c6 35):=⟨_,rfl⟩
     obtain ⟨g8,hg8⟩:∃ g,w6.heap.size=g:=⟨_,rfl⟩
     rw [←hw7] at HW7 HL7 HB7 HRO7 ⊢
     rw [hg8] at HW7 ⊢
     have hg38:w3.heap.size < g8:=by rw [←hg8];exact qal HL6.out.bt
     clear hw7 HL6 HRO
     have KS:Hid (∀ W,Below w7.heap.size w7 W→qap W g8 18=true∧rowAt W g8=c6):=fun W hb=>⟨qbl ((hb.block _ (qal HW7.out)).trans HW7.out) hsz6,qcf ((hb.block _ (qal HW7.out)).trans HW7.out)⟩
     refine qcz (S:=fun W=>qap W g8 18=true∧rowAt W g8=c6) (by kernel_rfl) ?_
     have hb1:Below w7.heap.size w7 w7.drew:=(Below.refl _ _).drew
     have hS:=KS.out _ hb1
     refine qil (some 30) (i:=0) (v:=.agg c6) rfl rfl (by kernel_rfl) (by kernel_rfl) (by kernel_rfl) (fun _ _ _ h=>h) (Or.inl ⟨by rfl,fun W hW=>qez rfl hW.1 hW.2⟩) hS ?_
     simp only [Act.put,sA,s0,s1]
     refine tkF 31 1 rfl rfl hS ?_
     simp only [Act.put,sA,s0,s1]
     refine tkF 32 2 rfl rfl hS ?_
     simp only [Act.put,sA,s0,s1]
     refine rdy1 3 rfl (fun K hK=>?_)
     go_simp
     refine hK.out _ _ (KS.out _ (qab hb1 _)) (fun _=>?_)
     clear hK K
     refine rdy1 4 rfl (fun K hK=>?_)
     go_simp
     refine (qhr w7.drew.heap.size 2 x o _ (heap_alloc_new w7.drew _) ((HL7.out.rx.below hb1).below (bel1 w7.drew _)) ((HRO7.out.below hb1).below (bel1 w7.drew _)) (by omega)).mono ?_
     rintro _ w8 ⟨⟨z,rfl,hzz,hzr,hzf⟩,hb⟩
     have hb8:Below w7.heap.size w7 w8:=qaa (qab hb1 _) hb
     have HZZ:=hI hzz
     have HZR:=hI hzr
     have HZF:Hid (FreshA (w3.heap.size + 1) z.A):=FreshA.mono hzf (Nat.le_trans (qal HL7.out.bt) (qab hb1 _).size)
     refine hK.out _ _ (KS.out _ hb8) (fun _=>?_)
     clear hK K hS hzz hzr hzf hb
     have hlt8:=qal (HL7.out.next hb8).bt
     have z1:=qby w8 w3.heap.size _ _ c6 (HL7.out.next hb8).bt (by rw [hszt,hsz6]) hone6
     refine rdy1 5 rfl (fun K hK=>?_)
     go_simp
     have hS:qap (w8.setRow w3.heap.size c6) g8 18=true∧rowAt (w8.setRow w3.heap.size c6) g8=c6:=by
      have e:(w8.setRow w3.heap.size c6).heap[g8]?=some (.cells c6 35 (0,0)):=(setRow_other _ _ g8 _ (by omega)).trans ((hb8.block _ (qal HW7.out)).trans HW7.out)
      exact ⟨qbl e hsz6,qcf e⟩
     refine hK.out _ _ hS (fun _=>?_)
     clear hK K z1
     refine tkF 5 6 rfl rfl hS ?_
     simp only [Act.put,sA,s0,s1]
     refine qca (by kernel_rfl) ?_ _
     go_wp2
     go_roundw
     case rel=>exact ⟨k + 1,s,c6,z,rfl,by go_num,by omega,HL.out.step HYF.out (by rw [←HYZ.out,HN.out];exact HPS.out) HC6.out HSS.out HB6.out (qaa HB7.out hb8) HZZ.out HZR.out HZF.out⟩
     case measure=>simp [intOf];omega
    ·have hlt':decide ((k:Int) < (y.z.size:Int))=false:=decide_eq_false (by omega)
     obtain rfl:k=y.z.size:=by omega
     go_upto_region 11 with fail
     have HTl:=hI (HTE.out t ct HL.out.ct HGt.out.2.1 HGt.out.1)
     have KS:Hid (∀ W,Below wr.heap.size wr W→qap W w3.heap.size 18=true∧rowAt W w3.heap.size=ct):=fun W hb=>⟨qbl (HL.out.next hb).bt hszt,qcf (HL.out.next hb).bt⟩
     refine qcz (S:=fun W=>qap W w3.heap.size 18=true∧rowAt W w3.heap.size=ct) (by kernel_rfl) ?_
     have hb1:Below wr.heap.size wr wr.drew:=(Below.refl _ _).drew
     have hS:=KS.out _ hb1
     refine qil (some 36) (i:=0) (v:=.agg ct) rfl rfl (by kernel_rfl) (by kernel_rfl) (by kernel_rfl) (fun _ _ _ h=>h) (Or.inl ⟨by rfl,fun W hW=>qez rfl hW.1 hW.2⟩) hS ?_
     simp only [Act.put,sA,s0,s1]
     refine tkF 37 1 rfl rfl hS ?_
     simp only [Act.put,sA,s0,s1]
     refine qil (some 38) (i:=2) (v:=.agg ct) rfl rfl (by kernel_rfl) (by kernel_rfl) (by kernel_rfl) (fun _ _ _ h=>h) (Or.inl ⟨by rfl,fun W hW=>qez rfl hW.1 hW.2⟩) hS ?_
     simp only [Act.put,sA,s0,s1]
     refine rdy1 3 rfl (fun K hK=>?_)
     go_simp
     refine (HTl.out _ ((HL.out.next hb1).rd HRS.out)).mono ?_
     rintro _ w6 ⟨⟨o,pm,rfl,hto⟩,hb⟩
     obtain ⟨t1,t2,t3,t4,t5,t6,t7⟩:=hto
     have hb2:Below wr.heap.size wr w6:=qaa hb1 hb
     have hg6:w3.heap.size + 1≤wr.drew.heap.size:=qal (HL.out.next hb1).bt
     have HT1:=hI t1
     have HT2:=hI t2
     have HT3:=hI t3
     have HT4:=hI t4
     have HT6:Hid (FreshA (w3.heap.size + 1) pm.aA):=FreshA.mono t6 hg6
     have HT7:Hid (FreshA (w3.heap.size + 1) pm.mA):=FreshA.mono t7 hg6
     have hoz:o.z.size≤9 * 1000 + 9:=by
      rw [HT1.out]
      have h9:=(qet HGt.out.1).1.2
      have h1:=qqj t h9 t.e.z.size
      have h2:=qkx t h9 pm
      have h3:=HGt.out.2.1.es
      simp
      omega
     refine hK.out _ _ (KS.out _ hb2) (fun _=>?_)
     clear hK K hS hb t1 t2 t3 t4 t5 t6 t7 hg6
     refine rdy1 4 rfl (fun K hK=>?_)
     go_simp
     refine hK.out _ _ (KS.out _ (qab hb2 _)) (fun _=>?_)
     clear hK K
     refine rdy1 5 rfl (fun K hK=>?_)
     go_simp
     refine (qhr w6.heap.size 2 x o _ (heap_alloc_new w6 _) ((HL.out.rx.below hb2).below (bel1 w6 _)) (HT4.out.below (bel1 w6 _)) (by omega)).mono ?_
     rintro _ w7 ⟨⟨z,rfl,hzz,hzr,hzf⟩,hb⟩
     have hb7:Below wr.heap.size wr w7:=qaa (qab hb2 _) hb
     have HZZ:=hI hzz
     have HZR:=hI hzr
     have HZF:Hid (FreshA (w3.heap.size + 1) z.A):=FreshA.mono hzf (Nat.le_trans (qal HL.out.bt) (qab hb2 _).size)
     have HRM:=hI ((HT3.out.next (bel1 w6 _)).next hb)
     refine hK.out _ _ (KS.out _ hb7) (fun _=>?_)
     clear hK K hzz hzr hzf hb
     have HZ7:=hI (HZ3.out.next (qaa HL.out.b3 hb7))
     have HL7:=hI (HL.out.next hb7)
     have z1:=qby w7 (w.heap.size + 1) _ _ ct HZ7.out.row (by rw [hszt];rfl) honet
     refine rdy1 6 rfl (fun K hK=>?_)
     go_simp
     have hS:qap (w7.setRow (w.heap.size + 1) ct) w3.heap.size 18=true∧rowAt (w7.setRow (w.heap.size + 1) ct) w3.heap.size=ct:=by
      have e:(w7.setRow (w.heap.size + 1) ct).heap[w3.heap.size]?=some (.cells ct 35 (0,0)):=(setRow_other _ _ _ _ (by omega)).trans HL7.out.bt
      exact ⟨qbl e hszt,qcf e⟩
     refine hK.out _ _ hS (fun _=>?_)
     clear hK K z1
     refine tkF 3 7 rfl rfl hS ?_
     simp only [Act.put,sA,s0,s1]
     refine qca (by kernel_rfl) ?_ _
     go_wp2
     refine bodyPost_ret (qav rfl rfl (setRow_heap _ _ _ _ _ _ HZ7.out.row) hszt) rfl ?_
     refine tick_good HLC.out HCK.out HRF1.out HAG2.out (by have:=HL.out.st;rwa [HYZ.out] at this) ?_ HT2.out HRM.out ?_ HZR.out (HZF.out.mono (by omega)) (HT6.out.mono (by omega)) (HT7.out.mono (by omega)) HZ7.out.b (by omega)
     ·rw [HZZ.out,HT1.out]
      simp
     ·exact (HSP2.out.trans (HL7.out.sp.monoG (by omega)) HL7.out.b3 HB31.out).monoG (by omega)
  ·rw [qhj hc] at HC
   have HCF:Hid (chkR r=false):=by show _=_;simpa using hc
   clear hc
   go_wp2_with (go_at_call 15;refine (HC.out _ HX.out.b).mono ?_;rintro _ w1 ⟨rfl,hb⟩;have HX1:=hI (HX.out.next hb);have HZ1:=hI (HZ.out.next hb);clear hb x1 x2;have x1:=HX1.out.box hsz;have x2:=HX1.out.rowAt;have x3:=HZ1.out.box (n:=18) rfl)
   refine bodyPost_ret (qav rfl rfl (setRow_heap _ _ _ _ _ _ HZ1.out.row) hsz) rfl ?_
   exact ⟨⟨r,⟨none,0,#[]⟩,by rw [HCS.out];rfl,Or.inl ⟨HCF.out,rfl,rfl⟩,SepR.self _ _ _,fun h0=>absurd h0 (by decide),fun _=>rfl⟩,HZ1.out.b.trans ⟨rfl,rfl,rfl,by simp,fun j hj=>setRow_other _ _ j _ (by omega)⟩⟩
 exact hgoal _ hcs
end Go.Proofs.YtlkmagmdhopcjaaGreat
namespace Go.Proofs.YtlkmagmdhopcjaaGreat
open Go.RowKit Go.Sort Go.Lib
set_option maxRecDepth 100000
attribute [local go_sem ↓] qak qai qau
attribute [local go_sem] qao qaj qah qaq qbd qbf
def KeepB (B:Nat) (W W':World):Prop:=W.heap.size≤W'.heap.size∧∀ j,B≤j→j < W.heap.size→W'.heap[j]?=W.heap[j]?
theorem KeepB.refl (B:Nat) (W:World):KeepB B W W:=⟨Nat.le_refl _,fun _ _ _=>rfl⟩
theorem KeepB.below {B:Nat} {W W' W2:World} (h:KeepB B W W') (hb:Below W'.heap.size W' W2):KeepB B W W2:=⟨Nat.le_trans h.1 hb.size,fun j j1 j2=>(hb.block j (Nat.lt_of_lt_of_le j2 h.1)).trans (h.2 j j1 j2)⟩
theorem KeepB.set {B:Nat} {W W':World} (h:KeepB B W W') {g:Nat} (hg:g < B) (k:Nat) (v:Value):KeepB B W (W'.setCell ⟨g,k,none⟩ v):=⟨by simpa using h.1,fun j j1 j2=>(heap_setCell_other _ ⟨g,k,none⟩ j _ (by simp;omega)).trans (h.2 j j1 j2)⟩
theorem KeepB.put3 {B:Nat} {W W':World} (h:KeepB B W W') {K:Nat} (hK:W.heap.size≤K) (p:Nat) (x:KE):KeepB B W (Go.Proofs.YtlkmagmdhopcjaaGreat.put3 W' K p x):=⟨by rw [qmt];exact h.1,fun j j1 j2=>(qoa W' K p x (by omega)).trans (h.2 j j1 j2)⟩
theorem SepR.mono {r s:RP} {B B':Nat} {W:World} (h:SepR r B W s) (hb:B'≤B):SepR r B' W s:=fun V hr ho hs=>h V hr (fun j j1 j2=>ho j (by omega) j2) hs
structure BoxD (w:World) (cs cm cz:Array Value) (N:Nat) (cn:Array Value) (W:World):Prop where
 o:BoxO w cs cm cz W
 n:BoxG w N cn 35 W
 hN:w.heap.size + 1 + 1 < N
theorem BoxD.next {w W W':World} {cs cm cz cn:Array Value} {N:Nat} (h:BoxD w cs cm cz N cn W) (hb:Below W.heap.size W W'):BoxD w cs cm cz N cn W':=⟨h.o.next hb,h.n.next hb,h.hN⟩
theorem BoxD.put3 {w W:World} {cs cm cz cn:Array Value} {N K:Nat} (h:BoxD w cs cm cz N cn W) (hK:N < K) (p:Nat) (x:KE):BoxD w cs cm cz N cn (Go.Proofs.YtlkmagmdhopcjaaGreat.put3 W K p x):=by
 have:=h.hN
 exact ⟨h.o.put3 (by omega) p x,h.n.put3 (by omega) (by omega) p x,h.hN⟩
theorem BoxD.init {w W:World} {cs cm cz:Array Value} (h:BoxO w cs cm cz W):BoxD w cs cm cz W.heap.size cs (W.alloc (.cells cs 35)) :=
 ⟨h.next (bel1 W _),⟨qaa h.r.b (bel1 W _),heap_alloc_new W _⟩,h.z.lt⟩
end Go.Proofs.YtlkmagmdhopcjaaGreat
namespace Go.Proofs.YtlkmagmdhopcjaaGreat
open Go.RowKit Go.Sort Go.Lib
set_option maxRecDepth 100000
attribute [local go_sem ↓] qak qai qau
attribute [local go_sem] qao qaj qah qaq qbd qbf
theorem onPrL {f:FuncId} {r:RP} {m:PM} {w:World} {cr cm:Array Value} (h:Calls Tryz.prog f #[.agg (encP r).toArray,.agg (msgC m)] w fun e w'=>OnPrO r m w e w') (e1:cr=(encP r).toArray) (e2:cm=msgC m) :
 Calls Tryz.prog f #[.agg cr,.agg cm] w fun e w'=>(∃ (s:RP) (c:Array Value),e=.returned (.tuple #[.agg c,.slice none 0 0])∧c=(encP s).toArray∧OnPrR r m s∧SepR r w.heap.size w' s)∧Below w.heap.size w w':=by
 rw [e1,e2]
 exact h.mono fun e w' ⟨⟨s,a,b,c⟩,d⟩=>⟨⟨s,_,a,rfl,b,c⟩,d⟩
theorem frontL {f:FuncId} {r:RP} {t:Int} {w:World} {cr:Array Value} (h:Calls Tryz.prog f #[.agg (encP r).toArray,.int .i64 t] w fun e w'=>(∃ s:RP,e=.returned (.agg (encP s).toArray)∧FrontR r t s∧SepR r w.heap.size w' s)∧Below w.heap.size w w') (e1:cr=(encP r).toArray) :
 Calls Tryz.prog f #[.agg cr,.int .i64 t] w fun e w'=>(∃ (s:RP) (c:Array Value),e=.returned (.agg c)∧c=(encP s).toArray∧FrontR r t s∧SepR r w.heap.size w' s)∧Below w.heap.size w w':=by
 rw [e1]
 exact h.mono fun e w' ⟨⟨s,a,b,c⟩,d⟩=>⟨⟨s,_,a,rfl,b,c⟩,d⟩
end Go.Proofs.YtlkmagmdhopcjaaGreat
namespace Go.Proofs.YtlkmagmdhopcjaaGreat
open Go.RowKit Go.Sort Go.Lib
theorem newG {s:RP} {me:Int} (h:NewR 3 1 me 3 s) (hm:me=1∨me=2):chkR s=true∧FewP s:=by
 obtain ⟨h1,h2,h3,h4,h5,h6,h7,h8,h9,h10⟩:=h.h
 have hp:PrbR { s with self:=2 }:=⟨⟨h1,h2,rfl,h5,h6,h7,h8,h9,h10⟩,by show 0≤s.clock∧s.clock≤1000000;rw [h4];decide,Or.inl h.e,h.o,h.k,h.m,h.fr,⟨h.d.1,fun i hi=>Or.inl (h.d.2 i hi)⟩,h.it,h.ss⟩
 obtain ⟨⟨a1,a2,a3,a4⟩,hB,hC⟩:=(qbi _).1 hp.chk
 have f:=hp.few
 have e1:s.n=3:=h1
 exact ⟨(qbi _).2 ⟨⟨a1,by rw [h3];omega,by rw [h3,e1];omega,a4⟩,hB,hC⟩,⟨f.e,f.o,f.k,f.m,f.fr,f.d,f.kk,f.dd,f.it,f.ss⟩⟩
structure TickN (s:RP):Prop where
 c:chkR s=true
 f:FewC s
 d:dueR s=#[]
 t:s.ticks=1
 e:s.e.z=#[]
 s:s.self=1∧s.n=3
theorem tickN {r r1 s:RP} (h:NewR 3 1 1 3 r) (h1:RefR r r1) (h2:AgedR r1 s):TickN s:=by
 obtain ⟨hc,hf⟩:=newG h (Or.inl rfl)
 have c1:=h1.chk hc hf.m'
 have f1:=h1.few hc hf.m'
 have c2:=h2.chk c1
 have f2:=h2.few f1
 have q:=h1.eq
 have e0:r1.e.z=#[]:=by rw [q];exact h.e
 have t0:r1.ticks=0:=by rw [q];exact h.h.2.2.2.2.2.2.1
 have s0:r1.self=1∧r1.n=3:=by rw [q];exact ⟨h.h.2.2.1,h.h.1⟩
 rcases h2 with ⟨h0,_⟩ | ⟨_,q2,e2⟩
 ·rw [h0] at c1;cases c1
 ·have t2:s.ticks=1:=by rw [q2];show min (r1.ticks + 1) 1000000=1;rw [t0];decide
  have n2:s.n=3:=by rw [q2];exact s0.2
  refine ⟨c2,f2,?_,t2,by rw [e2,e0];rfl,⟨by rw [q2];exact s0.1,n2⟩⟩
  unfold dueR
  rw [if_neg]
  rintro ⟨_,h3⟩
  rw [t2,n2] at h3
  exact absurd h3 (by decide)
theorem oth13:(othK 1 (3:Int).toNat).toList=[2,3]:=by decide
theorem qww {P:RP→Int→RP→List OU→Prop} {r s:RP} {x:RW OU} {W:World} (h:NewR 3 1 1 3 r) (hT:TickR P r s x W):s.ticks=1∧∃ m:PM,m.k=10∧x.z=#[⟨2,m⟩,⟨3,m⟩]:=by
 obtain ⟨hc,hf⟩:=newG h (Or.inl rfl)
 rcases hT with ⟨h0,_⟩ | ⟨_,r1,s2,pm,os,h1,h2,h3,h4,h5,_⟩
 ·rw [h0] at hc;cases hc
 ·have hn:=tickN h h1 h2
  rw [hn.d] at h3
  obtain ⟨rfl,rfl⟩:s=s2∧os=[]:=h3
  have hs:s.e.z.size=0:=by rw [hn.e];rfl
  refine ⟨hn.t,{ pm with fr:=s.self },h5.h.1,?_⟩
  rw [h4,hs]
  unfold allO
  rw [hn.s.1,hn.s.2,oth13]
  rfl
def m29 (A B:Option Addr) (a b:Nat):PM:=⟨10,1,0,0,0,0,0,0,⟨#[]⟩,0,4,A,a,#[(3,11)],B,b,#[4,0,0],1⟩
def kk2:KN:=⟨2,#[(4,4)],#[(3,11)]⟩
theorem kk2_add:AddR ⟨0,#[],#[]⟩ 0 4 #[(3,11)] kk2:=by
 refine ⟨#[(1,2),(4,4)],⟨NL.lit (by decide),fun n=>?_⟩,by decide,⟨by decide,?_,?_⟩⟩
 ·rw [Bool.eq_iff_iff,qif]
  show inR #[(1,2),(4,4)] n=true↔inR #[] n=true∨((max 0 0 < n∧n≤4)∧n ∉ [3]∧n ∉ ([]:List Int))
  unfold inR
  simp [qek]
  omega
 ·refine ⟨fun _=>IsN.fit ⟨NL.lit (by decide),fun n=>?_⟩ (by decide),fun h=>absurd (by decide) h⟩
  rw [Bool.eq_iff_iff];unfold qpu inR qde kk2;simp;omega
 ·show #[(3,11)]=mrgK _ _
  unfold mrgK
  exact (qur [(3,11)] (by decide) (by simp)).symm
theorem kk2_set:SetR kk2 #[] kk2:=by
 refine ⟨#[(4,4)],⟨NL.lit (by decide),fun n=>?_⟩,by decide,⟨by decide,?_,by decide⟩⟩
 ·rw [Bool.eq_iff_iff,qmc]
  unfold kk2
  simp
 ·refine ⟨fun _=>IsN.fit ⟨NL.lit (by decide),fun n=>?_⟩ (by decide),fun h=>absurd (by decide) h⟩
  rw [Bool.eq_iff_iff];unfold qpu inR qde kk2;simp;omega
theorem add00:AddR ⟨0,#[],#[]⟩ 0 0 #[] ⟨0,#[],#[]⟩:=by
 refine ⟨#[],⟨NL.lit (by decide),fun n=>?_⟩,by decide,⟨by decide,?_,?_⟩⟩
 ·rw [Bool.eq_iff_iff,qif]
  show inR #[] n=true↔inR #[] n=true∨((max 0 0 < n∧n≤0)∧n ∉ ([]:List Int)∧n ∉ ([]:List Int))
  unfold inR
  simp <;> omega
 ·refine ⟨fun _=>IsN.fit ⟨NL.lit (by decide),fun n=>?_⟩ (by decide),fun h=>absurd (by decide) h⟩
  rw [Bool.eq_iff_iff];unfold qpu inR qde;simp
 ·show #[]=mrgK _ _
  unfold mrgK
  exact (qur [] (by decide) (by simp)).symm
theorem m29_chk (A B:Option Addr) (a b:Nat):chkM (m29 A B a b)=0:=rfl
theorem add29:addB ⟨0,#[],#[]⟩ 0 4 #[(3,11)]=true∧qas #[4,0,0] 3=0∧qbe 0=0:=by decide
theorem m29_ok {r:RP} (h:NewR 3 1 2 3 r) (A B:Option Addr) (a b:Nat):okPr r (m29 A B a b)=true:=by
 obtain ⟨hc,_⟩:=newG h (Or.inr rfl)
 obtain ⟨g1,g2,g3⟩:=add29
 unfold okPr qft
 rw [hc,m29_chk]
 show (decide ((10:Int)=10) && (true && decide ((0:Int)=0) && decide ((1:Int)≤r.n∧(1:Int)≠r.self∧qbe 0≤r.n∧(0:Int).toNat >>> r.n.toNat=0)) && addB r.k.z[0]!.kn 0 4 #[(3,11)] && decide (qas #[4,0,0] r.n=0))=true
 rw [h.k.2 0 (by decide),g1,h.h.1,h.h.2.2.1,g2,g3]
 decide
theorem qwx {r s:RP} {A B:Option Addr} {a b:Nat} (h:NewR 3 1 2 3 r) (hO:OnPrR r (m29 A B a b) s):chkR s=true∧FewC s∧qeh s=#[2,0,0]∧s.fr.z=#[1,0,0]:=by
 obtain ⟨hc,hf⟩:=newG h (Or.inr rfl)
 have hok:=m29_ok h A B a b
 have hg:=hO.good hf
 have hcs:=hg.2 hc
 rcases hO with ⟨h0,_⟩ | ⟨_,u,v,h1,h2,h3⟩
 ·rw [h0] at hok;cases hok
 ·have us:u.self=2:=by rw [h1.eq];exact h.h.2.2.1
  have ufl:u.floor=0:=by rw [h1.eq];exact h.h.2.2.2.2.2.1
  have uck:u.clock=0:=by rw [h1.eq];exact h.h.2.2.2.1
  have uo:u.o.z=#[]:=by rw [h1.eq];exact h.o
  have ue:u.e.z=#[]:=by rw [h1.eq];exact h.e
  have ud:∀ id,doneI u id=false:=fun id=>by
   have e:doneI u id=doneI r id:=by rw [h1.eq];rfl
   rw [e]
   unfold doneI
   rw [h.h.1]
   by_cases hs:1≤qbe id∧qbe id≤3
   ·rw [h.d.2 _ (by omega)]
    have:qbx #[] (qid id)=false:=rfl
    rw [this,Bool.and_false]
   ·rw [decide_eq_false hs,Bool.false_and]
  have uks:u.k.z.size=3:=by rw [h1.ks];exact h.k.1
  have ukk:∀ i,i < 3→u.k.z[i]!.kn=if i=0 then kk2 else ⟨0,#[],#[]⟩:=fun i hi=>by
   have h4:=h1.kk i (by rw [h.k.1];exact hi)
   rw [h.k.2 i hi] at h4
   by_cases hi0:i=0
   ·subst hi0
    rw [if_pos (show ((0:Nat):Int) + 1=(m29 A B a b).fr from rfl)] at h4
    rw [if_pos rfl]
    exact h4.1.uniq kk2_add
   ·rw [if_neg (show ¬ (i:Int) + 1=(m29 A B a b).fr by show ¬ (i:Int) + 1=1;omega)] at h4
    rw [if_neg hi0]
    exact h4
  have ov:∀ k ids,qns u k ids→ids=#[]:=fun k ids ho=>by
   apply Array.eq_empty_of_size_eq_zero
   rcases Nat.eq_zero_or_pos ids.size with h0 | h0
   ·exact h0
   ·have hx:=(ho ids[0]!).1 (qen ids h0)
    have:overB u ids[0]! = false:=by
     unfold overB
     rw [ud,ue]
     rfl
    rw [this] at hx
    exact absurd hx.2 (by decide)
  have key:∀ i,i < 3→v.k.z[i]!.base=if i=0 then 2 else 0:=fun i hi=>by
   obtain ⟨k1,ids,g1,g2,g3⟩:=h2.kk i (by rw [uks];exact hi)
   have hids:=ov _ _ g2
   subst hids
   rw [ukk i hi,us,ufl,uck,uo] at g1
   by_cases hi0:i=0
   ·subst hi0
    rw [if_neg (by decide),if_pos rfl] at g1
    rw [g1] at g3
    rw [if_pos rfl]
    exact congrArg KN.base (g3.uniq kk2_set)
   ·rw [if_neg hi0] at g1 ⊢
    have e1:k1=⟨0,#[],#[]⟩:=by
     by_cases hi1:(i:Int) + 1=2
     ·rw [if_pos hi1] at g1
      exact g1.uniq add00
     ·rw [if_neg hi1] at g1
      exact g1
    rw [e1] at g3
    exact congrArg KN.base (g3.uniq (setBs 0 #[]))
  have sk:s.k=v.k:=by rw [h3.1]
  refine ⟨hcs,hg.1,?_,?_⟩
  ·unfold qeh
   rw [if_pos hcs,sk]
   exact bas3 (by rw [h2.ks,uks]) (key 0 (by decide)) (key 1 (by decide)) (key 2 (by decide))
  ·have e1:s.fr=u.fr:=by rw [h3.1];show v.fr=_;rw [h2.eq]
   rw [e1,h1.fr,h.fr]
   rfl
theorem qsx {r s:RP} (h:NewR 3 1 1 3 r) (hF:FrontR r 5 s):s.fr.z=#[5,0,0]:=by
 obtain ⟨hc,_⟩:=newG h (Or.inl rfl)
 rcases hF with ⟨h0,_⟩ | ⟨_,a,_,h2,h3⟩
 ·exact absurd ⟨hc,by decide,by decide⟩ h0
 ·have e1:s.fr=a.fr:=by rw [h3.1]
  rw [e1,h2,h.fr,h.h.2.2.1]
  rfl
def e11:EN:=⟨11,1,3,0,0,0,0,6,⟨#[]⟩,none,0,#[]⟩
def e21:EN:=⟨21,1,3,0,0,0,0,5,⟨#[]⟩,none,0,#[]⟩
theorem e1121:chkT #[e11,e21]=true∧qbe 11=1∧qbe 21=1:=by decide
def c29 (r:RP) (A:Option Addr) (c:Nat):RP:={ r with ticks:=24,e:=⟨A,c,#[e11,e21]⟩ }
theorem qlr {r:RP} (h:NewR 3 1 1 3 r) (A:Option Addr) (c:Nat):chkR (c29 r A c)=true∧FewC (c29 r A c):=by
 obtain ⟨hc,hf⟩:=newG h (Or.inl rfl)
 have hf:=hf.c
 obtain ⟨t1,t2,t3⟩:=e1121
 have h2:chkR { r with e:=⟨A,c,#[e11,e21]⟩ }=true:=by
  refine chk_e hc _ t1 fun x hx=>?_
  rw [h.h.1]
  have hx':x=e11∨x=e21:=by simpa using hx
  rcases hx' with rfl | rfl
  ·show qbe 11≤3;rw [t2];decide
  ·show qbe 21≤3;rw [t3];decide
 obtain ⟨⟨a1,a2,a3,a4,a5,a6,a7,a8,a9⟩,hB,hC⟩:=(qbi _).1 h2
 refine ⟨(qbi _).2 ⟨⟨a1,a2,a3,a4,a5,a6,(by decide:(0:Int)≤24),(by decide:(24:Int)≤1000000),a9⟩,hB,hC⟩,⟨(by decide:2≤1000),fun i hi=>?_,hf.o,hf.k,hf.m,hf.mm,hf.fr,hf.d,hf.dd,hf.kk⟩⟩
 have hi':i < 2:=hi
 rcases (show i=0∨i=1 by omega) with rfl | rfl <;> exact ⟨Nat.zero_le _,Nat.zero_le _⟩
theorem c29_due {r:RP} (h:NewR 3 1 1 3 r) (A:Option Addr) (c:Nat):dueR (c29 r A c)=#[11]:=by
 unfold dueR
 rw [if_pos ⟨(qlr h A c).1,by show (24:Int).tmod (8 * r.n)=0;rw [h.h.1];decide⟩]
 rfl
theorem c29_age {r s:RP} {A:Option Addr} {c:Nat} (h:NewR 3 1 1 3 r) (hA:AgedR (c29 r A c) s):s.e.z.size=2∧s.e.z[1]!.age=6:=by
 rcases hA with ⟨h0,_⟩ | ⟨_,_,e2⟩
 ·rw [(qlr h A c).1] at h0;cases h0
 ·have e3:s.e.z=ageK #[e11,e21] 2:=e2
  rw [e3]
  exact ⟨rfl,rfl⟩
theorem c29_tell {r:RP} (h:NewR 3 1 1 3 r) (A:Option Addr) (c:Nat) (pm:PM):(qiz (c29 r A c) 2 ++ allO (c29 r A c) pm).toArray.size=6:=by
 have e:∀ m,(allO (c29 r A c) m).length=2:=fun m=>by
  unfold allO qpg
  rw [List.length_map]
  show (othK r.self r.n.toNat).toList.length=2
  rw [h.h.1,h.h.2.2.1,oth13]
  rfl
 rw [List.size_toArray,List.length_append,e]
 show ((([]:List OU) ++ allO _ _) ++ allO _ _).length + 2=6
 rw [List.length_append,List.length_append,e,e]
 rfl
end Go.Proofs.YtlkmagmdhopcjaaGreat
