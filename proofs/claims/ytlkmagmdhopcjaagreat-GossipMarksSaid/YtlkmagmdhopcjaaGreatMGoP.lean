/- Texts that the law leans on. -/
import Derived.Test.YtlkmagmdhopcjaaGreatMStG
import Derived.Test.YtlkmagmdhopcjaaGreatMTbP
import Derived.Test.YtlkmagmdhopcjaaGreatMMsgF
import Derived.Test.YtlkmagmdhopcjaaGreatMOwnK
import Derived.Deep.CutRange
import Derived.Deep.CutBlock
import Derived.Test.YtlkmagmdhopcjaaGreatMStV
import Derived.Test.YtlkmagmdhopcjaaGreatMAnyE
import Derived.Test.YtlkmagmdhopcjaaGreatMStN
import Derived.Test.YtlkmagmdhopcjaaGreatMRead
import Derived.Test.YtlkmagmdhopcjaaGreatMDelN
namespace Go.Proofs.YtlkmagmdhopcjaaGreat
open Go.RowKit Go.Sort Go.Lib
def qft (r:RP) (m:PM):Bool:=chkR r && decide (chkM m=0) && decide (m.fr≤r.n∧m.fr≠r.self∧qbe m.id≤r.n∧m.q.toNat >>> r.n.toNat=0)
def qfu (d:Array Int) (p:Nat) (t:Int):Array Int:=d.setIfInBounds p (max d[p]! t)
theorem qdo (d:Array Int) (p:Nat) (t:Int):(qfu d p t).size=d.size:=by simp [qfu]
theorem qls (d:Array Int) (p:Nat) (t:Int) {i:Nat} (hi:i < d.size):(qfu d p t)[i]! = if i=p then max d[i]! t else d[i]!:=by
 unfold qfu
 by_cases h:i=p
 ·subst h
  rw [if_pos rfl,getElem!_set_same d i _ hi]
 ·rw [if_neg h]
  rw [getElem!_def,Array.getElem?_setIfInBounds,if_neg (Ne.symm h)]
  exact (getElem!_def d i).symm
theorem qio {d:Array Int} {n t:Int} {p:Nat} (h:qas d n=0) (ht:0≤t∧t≤1000000) (_hp:p < d.size):qas (qfu d p t) n=0:=by
 obtain ⟨a,b,c⟩:=qat.1 h
 refine qat.2 ⟨a,by rw [qdo];exact b,fun x hx=>?_⟩
 obtain ⟨i,hi,rfl⟩:=qgb hx
 rw [qdo] at hi
 rw [qls d p t hi]
 have:=c d[i]! (qen d hi)
 split <;> omega
def okPr (r:RP) (m:PM):Bool:=decide (m.k=10) && qft r m && addB r.k.z[m.fr.toNat - 1]!.kn m.lo m.hi m.ats && decide (qas m.mks r.n=0)
structure PromR (r:RP) (m:PM) (s:RP):Prop where
 eq:s={ r with k:=s.k,m:=s.m,fr:=s.fr }
 ks:s.k.z.size=r.k.z.size
 kk:∀ i,i < r.k.z.size→if (i:Int) + 1=m.fr then AddR r.k.z[i]!.kn m.lo m.hi m.ats s.k.z[i]!.kn∧s.k.z[i]!.r.z.size≤r.k.z[i]!.r.z.size + r.k.z[i]!.a.z.size + m.ats.size + 1 else s.k.z[i]!.kn=r.k.z[i]!.kn
 ms:s.m.z.size=r.m.z.size
 mm:∀ i,i < r.m.z.size→s.m.z[i]!.z=if (i:Int) + 1=m.fr then qda r.m.z[i]!.z m.mks else r.m.z[i]!.z
 fr:s.fr.z=qfu r.fr.z (m.fr.toNat - 1) m.dn
def DropR (r s:RP):Prop:=s={ r with e:=s.e }∧s.e.z=qeq (qeg r.fr.z) r.e.z
def OnPrR (r:RP) (m:PM) (s:RP):Prop:=(okPr r m=false∧s=r)∨(okPr r m=true∧∃ a b,PromR r m a∧RefR a b∧DropR b s)
def FrontR (r:RP) (t:Int) (s:RP):Prop:=(¬ (chkR r=true∧0≤t∧t≤1000000)∧s=r)∨((chkR r=true∧0≤t∧t≤1000000)∧∃ a,a={ r with fr:=a.fr }∧a.fr.z=qfu r.fr.z (r.self.toNat - 1) t∧DropR a s)
theorem PromR.uniq {r a b:RP} {m:PM} (h:PromR r m a) (g:PromR r m b):EqR a b:=by
 have q:=h.eq
 have q':=g.eq
 have ge:∀ {a b:RP} {k m fr},a={ b with k:=k,m:=m,fr:=fr }→a.n=b.n∧a.f=b.f∧a.self=b.self∧a.clock=b.clock∧a.seq=b.seq∧a.ticks=b.ticks∧a.e=b.e∧a.floor=b.floor∧a.d=b.d∧a.lt=b.lt∧a.lid=b.lid∧a.count=b.count∧a.o=b.o:=by
  rintro a b k m fr rfl
  exact ⟨rfl,rfl,rfl,rfl,rfl,rfl,rfl,rfl,rfl,rfl,rfl,rfl,rfl⟩
 obtain ⟨p1,p2,p3,p4,p5,p6,p7,p8,p9,p10,p11,p12,p13⟩:=ge q
 obtain ⟨r1,r2,r3,r4,r5,r6,r7,r8,r9,r10,r11,r12,r13⟩:=ge q'
 refine ⟨⟨by rw [p1,r1],by rw [p2,r2],by rw [p3,r3],by rw [p4,r4],by rw [p5,r5],by rw [p8,r8],by rw [p6,r6],by rw [p10,r10],by rw [p11,r11],by rw [p12,r12]⟩,?_,by rw [p13,r13],⟨by rw [h.ks,g.ks],fun i hi=>?_⟩,⟨by rw [h.ms,g.ms],fun i hi=>?_⟩,by rw [h.fr,g.fr],?_⟩
 ·rw [p7,r7];exact ⟨rfl,fun _ _=>qjy _⟩
 ·rw [h.ks] at hi
  have a1:=h.kk i hi
  have a2:=g.kk i hi
  by_cases hf:(i:Int) + 1=m.fr
  ·rw [if_pos hf] at a1 a2
   exact a1.1.uniq a2.1
  ·rw [if_neg hf] at a1 a2
   rw [a1,a2]
 ·rw [h.ms] at hi
  rw [h.mm i hi,g.mm i hi]
 ·rw [p9,r9];exact ⟨rfl,fun _ _=>rfl⟩
theorem qwy {x y:EN} (h:sameP x y) (n:Int):qin n x=qin n y:=by
 unfold qin
 rw [h.2.1,h.2.2.2.1]
theorem qsy {n:Int}:∀ {l k:List EN},l.length=k.length→(∀ i,i < l.length→sameP l[i]! k[i]!)→((l.filter fun x=>!qin n x).length=(k.filter fun x=>!qin n x).length∧∀ i,i < (l.filter fun x=>!qin n x).length→sameP (l.filter fun x=>!qin n x)[i]! (k.filter fun x=>!qin n x)[i]!):=by
 intro l
 induction l with
 | nil =>
   intro k hk _
   have:k=[]:=List.eq_nil_of_length_eq_zero hk.symm
   subst this
   exact ⟨rfl,fun i hi=>absurd hi (by simp)⟩
 | cons x l ih =>
   intro k hk h
   cases k with
   | nil=>simp at hk
   | cons y k =>
     have hxy:sameP x y:=h 0 (by simp)
     have hl:l.length=k.length:=by simpa using hk
     have ht:∀ i,i < l.length→sameP l[i]! k[i]!:=fun i hi=>by
      have:=h (i + 1) (by simpa using hi)
      simpa using this
     obtain ⟨e1,e2⟩:=ih hl ht
     have hd:=qwy hxy n
     cases hb:qin n x
     ·rw [List.filter_cons_of_pos (by rw [hb];rfl),List.filter_cons_of_pos (by rw [←hd,hb];rfl)]
      refine ⟨by simp [e1],fun i hi=>?_⟩
      cases i with
      | zero=>simpa using hxy
      | succ i =>
        have:=e2 i (by simpa using hi)
        simpa using this
     ·rw [List.filter_cons_of_neg (by rw [hb];decide),List.filter_cons_of_neg (by rw [←hd,hb];decide)]
      exact ⟨e1,e2⟩
theorem qwz {a b:Array EN} (h:a.size=b.size∧∀ i,i < a.size→sameP a[i]! b[i]!) (n:Int):(qeq n a).size=(qeq n b).size∧∀ i,i < (qeq n a).size→sameP (qeq n a)[i]! (qeq n b)[i]!:=by
 have hg:∀ (d:Array EN) (i:Nat),d.toList[i]! = d[i]!:=fun d i=>by
  rw [getElem!_def,getElem!_def];simp
 obtain ⟨e1,e2⟩:=qsy (n:=n) (l:=a.toList) (k:=b.toList) (by simpa using h.1) (fun i hi=>by rw [hg,hg];exact h.2 i (by simpa using hi))
 unfold qeq
 refine ⟨by simpa using e1,fun i hi=>?_⟩
 have:=e2 i (by simpa using hi)
 rw [←hg,←hg]
 exact this
theorem DropR.uniq {a b s t:RP} (he:EqR a b) (h:DropR a s) (g:DropR b t):EqR s t:=by
 obtain ⟨q,h1⟩:=h
 obtain ⟨q',g1⟩:=g
 have ee:=qwz he.e (qeg a.fr.z)
 rw [←h1,he.fr,←g1] at ee
 rw [q,q']
 exact ⟨he.h,ee,he.o,he.k,he.m,he.fr,he.d⟩
theorem OnPrR.uniq {r s t:RP} {m:PM} (h:OnPrR r m s) (g:OnPrR r m t):EqR s t:=by
 rcases h with ⟨h0,rfl⟩ | ⟨h0,a,b,h1,h2,h3⟩
 ·rcases g with ⟨_,rfl⟩ | ⟨g0,_⟩
  ·exact EqR.refl _
  ·rw [h0] at g0;cases g0
 ·rcases g with ⟨g0,_⟩ | ⟨g0,c,d,g1,g2,g3⟩
  ·rw [h0] at g0;cases g0
  ·have hc:chkR r=true:=by
    unfold okPr qft at h0
    simp only [Bool.and_eq_true] at h0
    exact h0.1.1.2.1.1
   have hd:(a.d.z.size:Int)=a.n:=by
    rw [h1.eq];exact (chkR_d hc:(r.d.z.size:Int)=r.n)
   exact h3.uniq (RefR.uniq (h1.uniq g1) hd h2 g2) g3
theorem FrontR.uniq {r s t:RP} {n:Int} (h:FrontR r n s) (g:FrontR r n t):EqR s t:=by
 rcases h with ⟨h0,rfl⟩ | ⟨h0,a,h1,h2,h3⟩
 ·rcases g with ⟨_,rfl⟩ | ⟨g0,_⟩
  ·exact EqR.refl _
  ·exact absurd g0 h0
 ·rcases g with ⟨g0,_⟩ | ⟨g0,b,g1,g2,g3⟩
  ·exact absurd h0 g0
  ·refine DropR.uniq ?_ h3 g3
   have e:=EqR.refl r
   rw [h1,g1]
   exact ⟨e.h,e.e,e.o,e.k,e.m,by rw [h2,g2],e.d⟩
theorem chk_km {r s:RP} (hc:chkR r=true) (he:s={ r with k:=s.k,m:=s.m,fr:=s.fr }) (hk:s.k.z.size=r.k.z.size) (hkk:∀ i,i < r.k.z.size→chkB s.k.z[i]!.kn=true) (hm:qfk s.m.z r.n=true) (hf:qas s.fr.z r.n=0):chkR s=true:=by
 obtain ⟨⟨a1,a2,a3,a4,a5,a6,a7,a8,a9,a10,a11,a12,a13,a14,a15⟩,hB,hC⟩:=(qbi r).1 hc
 rw [he]
 refine (qbi _).2 ⟨⟨a1,a2,a3,a4,a5,a6,a7,a8,a9,a10,a11,?_,?_,hf,a15⟩,⟨hB.1,fun i hi=>⟨if_pos (hkk i ?_),(hB.2 i ?_).2⟩⟩,hC⟩
 ·show (s.k.z.size:Int)=r.n
  rw [hk];exact a12
 ·exact if_pos hm
 ·have hi':i < s.k.z.size:=hi
  omega
 ·have hi':i < s.k.z.size:=hi
  omega
theorem chk_e {r:RP} (hc:chkR r=true) (y:RW EN) (hy:chkT y.z=true) (hf:∀ x ∈ y.z.toList,qbe x.id≤r.n):chkR { r with e:=y }=true:=by
 obtain ⟨⟨a1,a2,a3,a4,a5,a6,a7,a8,a9,a10,a11,a12,a13,a14,a15⟩,hB,hC⟩:=(qbi r).1 hc
 exact (qbi _).2 ⟨⟨a1,a2,a3,a4,a5,a6,a7,a8,a9,a10,if_pos hy,a12,a13,a14,a15⟩,⟨fun i hi=>hf _ (qen _ hi),hB.2⟩,hC⟩
theorem qob {r:RP} (h:chkR r=true):chkT r.e.z=true:=by
 have h11:tabE r.e.z=0:=((qbi r).1 h).1.2.2.2.2.2.2.2.2.2.2.1
 unfold tabE at h11
 cases hc:chkT r.e.z
 ·rw [hc] at h11;cases h11
 ·rfl
theorem qpd {r:RP} (h:chkR r=true):∀ x ∈ r.e.z.toList,qbe x.id≤r.n:=by
 intro x hx
 obtain ⟨i,hi,rfl⟩:=qgb hx
 exact ((qbi r).1 h).2.1.1 i hi
theorem qip {r:RP} (h:chkR r=true):qas r.fr.z r.n=0:=((qbi r).1 h).1.2.2.2.2.2.2.2.2.2.2.2.2.2.1
theorem DropR.chk {r s:RP} (h:DropR r s) (hc:chkR r=true):chkR s=true:=by
 obtain ⟨q,h1⟩:=h
 rw [q]
 refine chk_e hc _ (by rw [h1];exact keep_ok (qob hc)) fun x hx=>?_
 rw [h1] at hx
 exact qpd hc x (qjf x hx)
theorem quv {n:Int} {d:Array EN} {i:Nat} (hi:i < (qeq n d).size):∃ j,j < d.size∧(qeq n d)[i]! = d[j]!:=by
 obtain ⟨j,hj,e⟩:=qgb (qjf _ (qen _ hi))
 exact ⟨j,hj,e.symm⟩
theorem DropR.few {r s:RP} (h:DropR r s) (hf:FewC r):FewC s:=by
 obtain ⟨q,h1⟩:=h
 rw [q]
 refine ⟨?_,fun i hi=>?_,hf.o,hf.k,hf.m,hf.mm,hf.fr,hf.d,hf.dd,hf.kk⟩
 ·show s.e.z.size≤1000
  rw [h1]
  have:=qjx (qeg r.fr.z) r.e.z
  have:=hf.es
  omega
 ·have hi':i < s.e.z.size:=hi
  show s.e.z[i]!.z.size≤1000∧s.e.z[i]!.pay.size≤1000
  rw [h1] at hi' ⊢
  obtain ⟨j,hj,e⟩:=quv hi'
  rw [e]
  exact hf.ee j hj
theorem chkM_10 {m:PM} (h:chkM m=0) (hk:m.k=10):proB m=true∧1≤m.fr∧m.fr≤9:=by
 unfold chkM at h
 rw [if_neg (by omega)] at h
 cases hc:(decide (1≤m.fr∧m.fr≤9) && qcr (qia m) m && mayB m)
 ·rw [hc] at h;cases h
 ·simp only [Bool.and_eq_true,decide_eq_true_eq] at hc
  obtain ⟨⟨a,_⟩,b⟩:=hc
  unfold mayB at b
  rw [if_pos hk] at b
  exact ⟨b,a⟩
structure OkPr (r:RP) (m:PM) (p:Nat):Prop where
 c:chkR r=true
 fr:m.fr=(p:Int) + 1
 pk:p < r.k.z.size
 ns:m.fr≠r.self
 add:AddA r.k.z[p]!.kn m.lo m.hi m.ats
 ats:m.ats.size≤200
 mks:qas m.mks r.n=0
 dn:0≤m.dn∧m.dn≤1000000
theorem quw {r:RP} {m:PM} (h:okPr r m=true):∃ p,OkPr r m p:=by
 unfold okPr qft at h
 simp only [Bool.and_eq_true,decide_eq_true_eq] at h
 obtain ⟨⟨⟨hk,⟨hc,hm⟩,h1,h2,_,_⟩,ha⟩,hx⟩:=h
 obtain ⟨hp,f1,f2⟩:=chkM_10 hm hk
 unfold proB at hp
 simp only [Bool.and_eq_true,decide_eq_true_eq] at hp
 obtain ⟨p,hpe⟩:∃ p:Nat,m.fr=(p:Int) + 1:=⟨m.fr.toNat - 1,by omega⟩
 have hq:m.fr.toNat - 1=p:=by omega
 rw [hq] at ha
 exact ⟨p,hc,hpe,by have:=qhk hc;omega,h2,qmb.1 ha,hp.1.2.2,hx,by omega⟩
theorem FewP.kk' {r:RP} (h:FewP r) {i:Nat} (hi:i < r.k.z.size):r.k.z[i]!.r.z.size≤100∧r.k.z[i]!.a.z.size≤100:=qpm.1 (h.kk i hi)
theorem PromR.kn {r s:RP} {m:PM} {p:Nat} (h:PromR r m s) (ho:OkPr r m p) (hf:FewP r):∀ i,i < r.k.z.size→chkB s.k.z[i]!.kn=true∧s.k.z[i]!.r.z.size≤500∧s.k.z[i]!.a.z.size≤300∧r.k.z[i]!.base≤s.k.z[i]!.base∧((i:Int) + 1=r.self→s.k.z[i]!.kn=r.k.z[i]!.kn):=by
 intro i hi
 have h1:=h.kk i hi
 have h2:=hf.kk' hi
 have h3:=ho.ats
 by_cases hf':(i:Int) + 1=m.fr
 ·rw [if_pos hf'] at h1
  have hip:i=p:=by have:=ho.fr;omega
  rw [←hip] at ho
  have hg:=qpp ho.add h1.1 (by show r.k.z[i]!.a.z.size + m.ats.size≤400;omega)
  have hs:s.k.z[i]!.a.z.size≤r.k.z[i]!.a.z.size + m.ats.size:=hg.2.2.1
  exact ⟨qdp.2 hg.1,by omega,by omega,hg.2.1,fun hc=>absurd (hf'.symm.trans hc) ho.ns⟩
 ·rw [if_neg hf'] at h1
  have e1:s.k.z[i]!.r.z=r.k.z[i]!.r.z:=congrArg KN.rs h1
  have e2:s.k.z[i]!.a.z=r.k.z[i]!.a.z:=congrArg KN.ats h1
  have e3:s.k.z[i]!.base=r.k.z[i]!.base:=congrArg KN.base h1
  rw [h1,e1,e2,e3]
  exact ⟨qhl ho.c i hi,by omega,by omega,Int.le_refl _,fun _=>rfl⟩
theorem PromR.chk {r s:RP} {m:PM} {p:Nat} (h:PromR r m s) (ho:OkPr r m p) (hf:FewP r):chkR s=true:=by
 have hR:=qbv.1 (qcq ho.c)
 refine chk_km ho.c h.eq h.ks (fun i hi=>(h.kn ho hf i hi).1) ?_ ?_
 ·refine qbv.2 ⟨hR.1,by rw [h.ms];exact hR.2.1,fun i hi=>?_⟩
  rw [h.ms] at hi
  rw [h.mm i hi]
  split
  ·exact qgy (hR.2.2 i hi) ho.mks
  ·exact hR.2.2 i hi
 ·rw [h.fr]
  have h1:=qip ho.c
  have h2:=(qat.1 h1).2.1
  have h3:=ho.pk
  have h4:=qhk ho.c
  have h5:=ho.fr
  exact qio h1 ho.dn (by omega)
theorem PromR.few {r s:RP} {m:PM} {p:Nat} (h:PromR r m s) (ho:OkPr r m p) (hf:FewP r):FewM s:=by
 have hk:=h.kn ho hf
 have hc:=hf.c
 have hR:=qbv.1 (qcq ho.c)
 refine ⟨⟨?_,?_,?_,?_,?_,?_,?_,?_,?_,?_⟩,?_,?_,?_⟩
 ·rw [h.eq];exact hc.es
 ·rw [h.eq];exact hc.ee
 ·rw [h.eq];exact hc.o
 ·rw [h.ks];exact hc.k
 ·rw [h.ms];exact hc.m
 ·intro i hi
  rw [h.ms] at hi
  rw [h.mm i hi]
  have h1:=hc.mm i hi
  have h2:=(qat.1 (hR.2.2 i hi)).2.1
  have h3:=(qat.1 ho.mks).2.1
  split
  ·rw [qcd];omega
  ·exact h1
 ·rw [h.fr,qdo];exact hc.fr
 ·rw [h.eq];exact hc.d
 ·rw [h.eq];exact hc.dd
 ·intro i hi
  rw [h.ks] at hi
  have:=hk i hi
  omega
 ·intro i hi
  rw [h.ks] at hi
  have:=hk i hi
  omega
 ·intro i hi hs
  rw [h.ks] at hi
  have es:s.self=r.self:=by rw [h.eq]
  rw [es] at hs
  have h1:=(hk i hi).2.2.2.2 hs
  have e1:s.k.z[i]!.r.z=r.k.z[i]!.r.z:=congrArg KN.rs h1
  have e2:s.k.z[i]!.a.z=r.k.z[i]!.a.z:=congrArg KN.ats h1
  rw [e1,e2]
  have:=hf.kk' hi
  omega
 ·rw [h.eq]
  have:=hf.o
  show r.o.z.size≤150
  omega
theorem OnPrR.good {r s:RP} {m:PM} (h:OnPrR r m s) (hf:FewP r):FewC s∧(chkR r=true→chkR s=true):=by
 rcases h with ⟨h0,rfl⟩ | ⟨h0,a,b,h1,h2,h3⟩
 ·exact ⟨hf.c,id⟩
 ·obtain ⟨p,ho⟩:=quw h0
  have c1:=h1.chk ho hf
  have f1:=h1.few ho hf
  exact ⟨h3.few (h2.few c1 f1),fun _=>h3.chk (h2.chk c1 f1)⟩
theorem FrontR.good {r s:RP} {t:Int} (h:FrontR r t s) (hf:FewC r):FewC s∧(chkR r=true→chkR s=true):=by
 rcases h with ⟨h0,rfl⟩ | ⟨⟨hc,h0,h1⟩,a,e,h2,h3⟩
 ·exact ⟨hf,id⟩
 ·have hs:=(qet hc).2
  have hfr:=qip hc
  have hfz:=(qat.1 hfr).2.1
  have ca:chkR a=true:=by
   rw [e]
   refine chk_km (r:=r) hc rfl rfl (qhl (r:=r) hc) (qcq (r:=r) hc) ?_
   show qas a.fr.z r.n=0
   rw [h2]
   exact qio hfr ⟨h0,h1⟩ (by omega)
  have fa:FewC a:=by
   rw [e]
   refine ⟨hf.es,hf.ee,hf.o,hf.k,hf.m,hf.mm,?_,hf.d,hf.dd,hf.kk⟩
   show a.fr.z.size≤1000
   rw [h2,qdo]
   exact hf.fr
  exact ⟨h3.few fa,fun _=>h3.chk ca⟩
end Go.Proofs.YtlkmagmdhopcjaaGreat
namespace Go.Proofs.YtlkmagmdhopcjaaGreat
open Go.RowKit Go.Sort Go.Lib
set_option maxRecDepth 100000
def qpe (t:TypeId) (v:Value):Sem Value:=Instr.loadAt t v
theorem qau (ρ:Operand→Value) (dst:Option Tmp) (x:Operand) (ty:TypeId) (pos:String) (after:Array Edge) (guard:Option (Nat×Bool)) :
 execOp ρ { dst,op:=.load 37 x,type:=ty,pos,after,guard }=(do pure (.value (← qpe 37 (ρ x)))):=rfl
theorem qbf (W:World) (g:Nat) (h:qap W g 14=true):(qpe 37 (.pointer (some ⟨g,0,none⟩))).run Tryz.prog W=.ok (.agg (rowAt W g)) W:=by
 obtain ⟨t,h1,h2⟩:=qey h
 simp only [qpe,Instr.loadAt,Instr.sureAddr,Sem.run_bind,Sem.run_pure,Result.andThen]
 exact run_loadVar_row W g t 37 _ (0,0) _ h1 Tryz.underlying37 rfl (by rw [h2];kernel_rfl)
attribute [local go_sem ↓] qak qai qau
attribute [local go_sem] qao qaj qah qaq qbd qbf
theorem qez {ρ:Operand→Value} {dst:Option Tmp} {x:Operand} {ty:TypeId} {pos:String} {after:Array Edge} {guard:Option (Nat×Bool)} {W:World} {g:Nat} {cs:Array Value} (hx:ρ x=.pointer (some ⟨g,0,none⟩)) (h:qap W g 18=true) (hr:rowAt W g=cs) :
 (execOp ρ { dst:=dst,op:=.load 35 x,type:=ty,pos:=pos,after:=after,guard:=guard }).run Tryz.prog W=.ok (.value (.agg cs)) W:=by
 rw [qak,hx]
 simp only [Sem.run_bind,Sem.run_pure,qao W g h,Result.andThen,hr]
theorem load_msg {ρ:Operand→Value} {dst:Option Tmp} {x:Operand} {ty:TypeId} {pos:String} {after:Array Edge} {guard:Option (Nat×Bool)} {W:World} {g:Nat} {cs:Array Value} (hx:ρ x=.pointer (some ⟨g,0,none⟩)) (h:qap W g 14=true) (hr:rowAt W g=cs) :
 (execOp ρ { dst:=dst,op:=.load 37 x,type:=ty,pos:=pos,after:=after,guard:=guard }).run Tryz.prog W=.ok (.value (.agg cs)) W:=by
 rw [qau,hx]
 simp only [Sem.run_bind,Sem.run_pure,qbf W g h,Result.andThen,hr]
theorem chain_if {w:World} {ops:List ByteArray} {c:Int} {v:Value} (h:Chain w ops c v):∃ t u,v=.iface t u:=by
 cases ops with
 | nil=>exact ⟨_,_,h⟩
 | cons op ops=>obtain ⟨b,o,u,rfl,_⟩:=h;exact ⟨_,_,rfl⟩
theorem tkN {P:Program} {ops:Array Oper} {Q:Exit→Act→World→Prop} {md:Region.Mode} {S:World→Prop} {oi:Oper} {fuel:Nat} {listed:Array Bool} {a:Act} {w:World} (t i:Nat) (hi:ops[i]?=some oi) (hd:oi.dst=some t) (hS:S w)
 (h:qcs P md ops Q S fuel (listed.setIfInBounds i true) (a.put (some t) undef) w) (hQ:∀ c a w,Q (.panic c) (a.put (some t) undef) w→Q (.panic c) a w:=by exact fun _ _ _ h=>h)
 (hs:Region.noSelect ops=true:=by kernel_rfl) (hf:Region.free md ops listed i=true:=by kernel_rfl) (hr:(Region.ready md ops listed).contains i=true:=by kernel_rfl) (hw:Region.wanted oi (yielded ops a.tmps)=false:=by rfl):qcs P md ops Q S (fuel + 1) listed a w :=
 qil (some t) hi hd hs hf hr hQ (Or.inr ⟨hw,rfl⟩) hS h
theorem qux {m:PM} (h:chkM m=0) (hk:m.k=10):m.id=0∧m.q=0:=by
 unfold chkM at h
 rw [if_neg (by omega)] at h
 cases hc:(decide (1≤m.fr∧m.fr≤9) && qcr (qia m) m && mayB m)
 ·rw [hc] at h;cases h
 ·simp only [Bool.and_eq_true,decide_eq_true_eq] at hc
  obtain ⟨⟨_,a⟩,_⟩:=hc
  unfold qcr qia at a
  simp only [decide_eq_true_eq,hk] at a
  simp at a
  exact ⟨by have:=a.1;omega,by omega⟩
theorem hears10 {r:RP} {m:PM} (hk:m.k=10):qft r m=(chkR r && decide (chkM m=0) && decide (m.fr≤r.n) && !decide (m.fr=r.self)):=by
 unfold qft
 cases hc:chkR r
 ·rfl
 by_cases hm:chkM m=0
 ·obtain ⟨h1,h2⟩:=qux hm hk
  have hn:=(qet hc).1
  have e1:qbe m.id≤r.n:=by rw [h1];show (0:Int)≤r.n;omega
  have e2:m.q.toNat >>> r.n.toNat=0:=by rw [h2];simp
  rw [Bool.eq_iff_iff]
  simp only [Bool.and_eq_true,decide_eq_true_eq,Bool.not_eq_true',decide_eq_false_iff_not,hm,Bool.true_and]
  simp [e1,e2]
 ·rw [decide_eq_false hm];rfl
structure BoxRM (w:World) (cs cm:Array Value) (W:World):Prop where
 r:BoxG w w.heap.size cs 35 W
 m:BoxG w (w.heap.size + 1) cm 37 W
theorem BoxRM.init (w:World) (cs cm:Array Value):BoxRM w cs cm ((w.alloc (.cells cs 35)).alloc (.cells cm 37)):=⟨BoxG.fst w cs cm _ _,BoxG.snd w cs cm _ _⟩
theorem BoxRM.next {w W W':World} {cs cm:Array Value} (h:BoxRM w cs cm W) (hb:Below W.heap.size W W'):BoxRM w cs cm W':=⟨h.r.next hb,h.m.next hb⟩
theorem BoxG.same {w W:World} {g:Nat} {cs:Array Value} {t:TypeId} (h:BoxG w g cs t W) (hg:w.heap.size≤g) {k:Nat} {v:Value} (hz:cs.setIfInBounds k v=cs):BoxG w g cs t (W.setCell ⟨g,k,none⟩ v):=by
 have:=h.set hg k v
 rwa [hz] at this
set_option maxHeartbeats 8000000 in
theorem qqu (r:RP) (m:PM) (w:World) (h:RdP w r) (hm:RdM w m) (hf:FewC r) (hk:m.k=10) :
 Calls Tryz.prog 29 #[.agg (encP r).toArray,.agg (msgC m)] w fun e w'=>e=.returned (.bool (qft r m))∧Below w.heap.size w w':=by
 have HC:Hid (∀ W,Below w.heap.size w W→Calls Tryz.prog 15 #[.agg (encP r).toArray] W fun e w'=>e=.returned (.int .i64 (repE r))∧Below W.heap.size W w'):=fun W hb=>qbh r W (h.below hb) hf
 have HM:Hid (∀ W,Below w.heap.size w W→Calls Tryz.prog 55 #[.agg (msgC m)] W fun e w'=>(∃ v,e=.returned v∧ErrV w' (if chkM m=0 then [] else [msgW]) (chkM m) v)∧Below W.heap.size W w'):=fun W hb=>Check_any m W (hm.next hb)
 have HV:Hid (qft r m=(chkR r && decide (chkM m=0) && decide (m.fr≤r.n) && !decide (m.fr=r.self))):=hears10 hk
 have HZ:=hI (fun h0:chkM m=0=>qux h0 hk)
 obtain ⟨hv,hhv⟩:∃ b,qft r m=b:=⟨_,rfl⟩
 rw [hhv] at HV ⊢
 obtain ⟨cs,hcs⟩:∃ cs,cs=(encP r).toArray:=⟨_,rfl⟩
 obtain ⟨hsz,hone⟩:=rowP hcs
 obtain ⟨cm,hcm⟩:∃ cm,cm=msgC m:=⟨_,rfl⟩
 have hsm:cm.size=14:=by rw [hcm];rfl
 have HQ0:Hid (cs[0]?=some (.int .i64 r.n)):=by show _=_;rw [hcs];rfl
 have HQ2:Hid (cs[2]?=some (.int .i64 r.self)):=by show _=_;rw [hcs];rfl
 have HM1:Hid (cm[1]?=some (.int .i64 m.fr)):=by show _=_;rw [hcm];rfl
 have HM2:Hid (cm[2]?=some (.int .i64 m.id)):=by show _=_;rw [hcm];rfl
 have HM7:Hid (cm[7]?=some (.int .i64 m.q)):=by show _=_;rw [hcm];rfl
 have HN:=hI (fun hc:chkR r=true=>(qet hc).1)
 have hgoal:∀ x y:Array Value,cs=x→cm=y→Calls Tryz.prog 29 #[.agg x,.agg y] w fun e w'=>e=.returned (.bool hv)∧Below w.heap.size w w':=by
  rintro _ _ rfl rfl
  rw [←hcs] at HC
  rw [←hcm] at HM
  simp only [encP] at hcs
  simp only [msgC] at hcm
  clear h hm hf hhv hk
  rw [hcs,hcm]
  go_enter Tryz.func29,Tryz.ntmps29
  rw [←hcs,←hcm]
  clear hcs hcm
  have HX:=hI (BoxRM.init w cs cm)
  have x1:=HX.out.r.box hsz
  have x2:=HX.out.r.rowAt
  have x3:=HX.out.m.box hsm
  have x4:=HX.out.m.rowAt
  go_wp2_with fail
  obtain ⟨w0,hw0⟩:∃ W,W=(w.alloc (.cells cs 35)).alloc (.cells cm 37):=⟨_,rfl⟩
  rw [←hw0] at HX ⊢
  clear hw0 x1 x2 x3 x4
  have fx1:=fun p:ExtW w0=>(HX.out.next p.h).r.box hsz
  have fx2:=fun p:ExtW w0=>(HX.out.next p.h).r.rowAt
  have fx3:=fun p:ExtW w0=>(HX.out.next p.h).m.box hsm
  have fx4:=fun p:ExtW w0=>(HX.out.next p.h).m.rowAt
  have fx5:=fun p:ExtW w0=>(HX.out.next p.h).r.at_ 0 HQ0.out
  have fx6:=fun p:ExtW w0=>(HX.out.next p.h).r.at_ 2 HQ2.out
  have fx7:=fun p:ExtW w0=>(HX.out.next p.h).m.at_ 1 HM1.out
  by_cases hc:chkR r=true
  ·rw [qcw hc] at HC
   have HCe:=hI (fun p:ExtW w0=>HC.out p.to (qaa HX.out.r.b p.h))
   have hn39:=HN.out hc
   by_cases h0:chkM m=0
   ·obtain ⟨hi0,hq0⟩:=HZ.out h0
    have HMe:Hid (∀ p:ExtW w0,Calls Tryz.prog 55 #[.agg cm] p.to fun e w'=>e=.returned .nilIface∧Below p.to.heap.size p.to w'):=fun p=>(HM.out p.to (qaa HX.out.r.b p.h)).mono fun e w' ⟨⟨v,he,hv⟩,hb⟩=>by
     rw [h0] at hv
     rcases hv with ⟨_,_,rfl⟩ | ⟨h,_⟩
     ·exact ⟨he,hb⟩
     ·exact absurd rfl h
    have fx8:=fun p:ExtW w0=>((HX.out.next p.h).m.at_ 2 HM2.out).trans (show some (Value.int .i64 m.id)=some (.int .i64 0) by rw [hi0])
    have HSl:=hI (fun p:ExtW w0=>qky 0 p.to)
    have HVc:Hid (hv=(decide (m.fr≤r.n) && !decide (m.fr=r.self))):=by
     show _=_
     rw [HV.out,hc,decide_eq_true h0];rfl
    have hs0:qbe 0=0:=by decide
    rw [hs0] at HSl
    have d0:decide (r.n < 0)=false:=decide_eq_false (by omega)
    clear hi0 hs0 HV HZ h0
    by_cases h1:r.n < m.fr
    ·have d1:decide (r.n < m.fr)=true:=decide_eq_true h1
     have HVV:Hid (hv=false):=by show _=_;rw [HVc.out,decide_eq_false (by omega)];rfl
     clear h1
     refine qad (by kernel_rfl) (by kernel_rfl) ?_
     repeat (first | go_big_quiet_step ((first | (go_at_call 15;exact Calls.ext_of (HCe.out _)) | (go_at_call 55;exact Calls.ext_of (HMe.out _)) | (go_at_call 66;exact Calls.ext_same (HSl.out _)))) | quiet_step ((first | (go_at_call 15;exact Calls.ext_of (HCe.out _)) | (go_at_call 55;exact Calls.ext_of (HMe.out _)) | (go_at_call 66;exact Calls.ext_same (HSl.out _)))))
     refine wpQuiet_nil ?_
     intro w' hw'
     obtain ⟨⟨W,hbW⟩,hw''⟩:=hw'
     have hw3:w'=W:=hw''
     subst hw3
     have HBW:=hI hbW
     clear hbW hw''
     go_wp2
     go_ret
     exact ⟨qac HVV.out.symm,qaa HX.out.r.b HBW.out⟩
    ·have d1:decide (r.n < m.fr)=false:=decide_eq_false h1
     by_cases h2:m.fr=r.self
     ·have d2:(m.fr == r.self)=true:=beq_iff_eq.2 h2
      have HVV:Hid (hv=false):=by show _=_;rw [HVc.out,decide_eq_true h2,Bool.not_true,Bool.and_false]
      clear h1 h2
      refine qad (by kernel_rfl) (by kernel_rfl) ?_
      repeat (first | go_big_quiet_step ((first | (go_at_call 15;exact Calls.ext_of (HCe.out _)) | (go_at_call 55;exact Calls.ext_of (HMe.out _)) | (go_at_call 66;exact Calls.ext_same (HSl.out _)))) | quiet_step ((first | (go_at_call 15;exact Calls.ext_of (HCe.out _)) | (go_at_call 55;exact Calls.ext_of (HMe.out _)) | (go_at_call 66;exact Calls.ext_same (HSl.out _)))))
      refine wpQuiet_nil ?_
      intro w' hw'
      obtain ⟨⟨W,hbW⟩,hw''⟩:=hw'
      have hw3:w'=W:=hw''
      subst hw3
      have HBW:=hI hbW
      clear hbW hw''
      go_wp2
      go_ret
      exact ⟨qac HVV.out.symm,qaa HX.out.r.b HBW.out⟩
     ·have d2:(m.fr == r.self)=false:=beq_eq_false_iff_ne.2 h2
      have HVV:Hid (hv=true):=by show _=_;rw [HVc.out,decide_eq_true (by omega:m.fr≤r.n),decide_eq_false h2];rfl
      clear h1 h2
      refine qad (by kernel_rfl) (by kernel_rfl) ?_
      repeat (first | go_big_quiet_step ((first | (go_at_call 15;exact Calls.ext_of (HCe.out _)) | (go_at_call 55;exact Calls.ext_of (HMe.out _)) | (go_at_call 66;exact Calls.ext_same (HSl.out _)))) | quiet_step ((first | (go_at_call 15;exact Calls.ext_of (HCe.out _)) | (go_at_call 55;exact Calls.ext_of (HMe.out _)) | (go_at_call 66;exact Calls.ext_same (HSl.out _)))))
      refine wpQuiet_nil ?_
      intro w' hw'
      obtain ⟨⟨W,hbW⟩,hw''⟩:=hw'
      have hw3:w'=W:=hw''
      subst hw3
      have HBW:=hI hbW
      clear hbW hw''
      have HXW:=hI (HX.out.next HBW.out)
      have q7:=(HXW.out.m.at_ 7 HM7.out).trans (show some (Value.int .i64 m.q)=some (.int .i64 0) by rw [hq0])
      have q0:=HXW.out.r.at_ 0 HQ0.out
      clear hq0
      go_wp2
      go_ret
      exact ⟨qac HVV.out.symm,qaa HX.out.r.b HBW.out⟩
   ·have HVV:Hid (hv=false):=by show _=_;rw [HV.out,decide_eq_false h0,Bool.and_false];rfl
    have KS:Hid (∀ W,Below w0.heap.size w0 W→qap W w.heap.size 18=true∧rowAt W w.heap.size=cs∧qap W (w.heap.size + 1) 14=true∧rowAt W (w.heap.size + 1)=cm):=fun W hb=>⟨(HX.out.next hb).r.box hsz,(HX.out.next hb).r.rowAt,(HX.out.next hb).m.box hsm,(HX.out.next hb).m.rowAt⟩
    clear HV HZ fx1 fx2 fx3 fx4 fx5 fx6 fx7
    refine qcz (S:=fun W=>qap W w.heap.size 18=true∧rowAt W w.heap.size=cs∧qap W (w.heap.size + 1) 14=true∧rowAt W (w.heap.size + 1)=cm) (by kernel_rfl) ?_
    have hb1:Below w0.heap.size w0 w0.drew:=(Below.refl _ _).drew
    have hS:=KS.out _ hb1
    refine qil (some 5) (i:=0) (v:=.agg cs) rfl rfl (by kernel_rfl) (by kernel_rfl) (by kernel_rfl) (fun _ _ _ h=>h) (Or.inl ⟨by rfl,fun W hW=>qez rfl hW.1 hW.2.1⟩) hS ?_
    simp only [Act.put,sA,s0,s1]
    refine rdy1 1 rfl (fun K hK=>?_)
    go_simp
    refine (HC.out _ (qaa HX.out.r.b hb1)).mono ?_
    rintro _ w1 ⟨rfl,hb⟩
    have hb2:Below w0.heap.size w0 w1:=qaa hb1 hb
    refine hK.out _ _ (KS.out _ hb2) (fun _=>?_)
    clear hK K hS hb
    have hS:=KS.out _ hb2
    refine tkF 7 2 rfl rfl hS ?_
    simp only [Act.put,sA,s0,s1]
    refine tkF 8 3 rfl rfl hS ?_
    simp only [Act.put,sA,s0,s1]
    refine qil (some 9) (i:=4) (v:=.agg cm) rfl rfl (by kernel_rfl) (by kernel_rfl) (by kernel_rfl) (fun _ _ _ h=>h) (Or.inl ⟨by rfl,fun W hW=>load_msg rfl hW.2.2.1 hW.2.2.2⟩) hS ?_
    simp only [Act.put,sA,s0,s1]
    refine rdy1 5 rfl (fun K hK=>?_)
    go_simp
    refine (HM.out _ (qaa HX.out.r.b hb2)).mono ?_
    rintro _ w2 ⟨⟨v,rfl,hev⟩,hb⟩
    obtain ⟨vt,vu,rfl⟩:∃ t u,v=.iface t u:=by
     rcases hev with ⟨h,_⟩ | ⟨_,h⟩
     ·exact absurd h h0
     ·exact chain_if h
    have hb3:Below w0.heap.size w0 w2:=qaa hb2 hb
    refine hK.out _ _ (KS.out _ hb3) (fun _=>?_)
    clear hK K hS hb hev
    have hS:=KS.out _ hb3
    refine tkF 11 6 rfl rfl hS ?_
    simp only [Act.put,sA,s0,s1]
    refine tkF 12 7 rfl rfl hS ?_
    simp only [Act.put,sA,s0,s1]
    refine tkF 13 8 rfl rfl hS ?_
    simp only [Act.put,sA,s0,s1]
    refine tkN 14 9 rfl rfl hS ?_
    simp only [Act.put,sA,s0,s1]
    refine tkN 15 10 rfl rfl hS ?_
    simp only [Act.put,sA,s0,s1]
    refine tkN 16 11 rfl rfl hS ?_
    simp only [Act.put,sA,s0,s1]
    refine tkN 17 12 rfl rfl hS ?_
    simp only [Act.put,sA,s0,s1]
    refine tkN 18 13 rfl rfl hS ?_
    simp only [Act.put,sA,s0,s1]
    refine tkF 19 14 rfl rfl hS ?_
    simp only [Act.put,sA,s0,s1]
    refine tkF 20 15 rfl rfl hS ?_
    simp only [Act.put,sA,s0,s1]
    refine tkN 21 16 rfl rfl hS ?_
    simp only [Act.put,sA,s0,s1]
    refine tkN 22 17 rfl rfl hS ?_
    simp only [Act.put,sA,s0,s1]
    refine tkN 23 18 rfl rfl hS ?_
    simp only [Act.put,sA,s0,s1]
    refine tkN 24 19 rfl rfl hS ?_
    simp only [Act.put,sA,s0,s1]
    refine tkN 25 20 rfl rfl hS ?_
    simp only [Act.put,sA,s0,s1]
    refine tkF 26 21 rfl rfl hS ?_
    simp only [Act.put,sA,s0,s1]
    refine tkF 27 22 rfl rfl hS ?_
    simp only [Act.put,sA,s0,s1]
    refine tkN 28 23 rfl rfl hS ?_
    simp only [Act.put,sA,s0,s1]
    refine tkN 29 24 rfl rfl hS ?_
    simp only [Act.put,sA,s0,s1]
    refine tkN 30 25 rfl rfl hS ?_
    simp only [Act.put,sA,s0,s1]
    refine tkN 31 26 rfl rfl hS ?_
    simp only [Act.put,sA,s0,s1]
    refine tkN 32 27 rfl rfl hS ?_
    simp only [Act.put,sA,s0,s1]
    refine tkN 33 28 rfl rfl hS ?_
    simp only [Act.put,sA,s0,s1]
    refine tkF 34 29 rfl rfl hS ?_
    simp only [Act.put,sA,s0,s1]
    refine qca (by kernel_rfl) ?_ _
    go_wp2
    go_ret
    exact ⟨qac HVV.out.symm,qaa HX.out.r.b hb3⟩
  ·rw [qhj hc] at HC
   have HCe:=hI (fun p:ExtW w0=>HC.out p.to (qaa HX.out.r.b p.h))
   have HVV:Hid (hv=false):=by show _=_;rw [HV.out,Bool.eq_false_iff.2 hc];rfl
   refine qad (by kernel_rfl) (by kernel_rfl) ?_
   repeat (first | go_big_quiet_step ((first | (go_at_call 15;exact Calls.ext_of (HCe.out _)))) | quiet_step ((first | (go_at_call 15;exact Calls.ext_of (HCe.out _)))))
   refine wpQuiet_nil ?_
   intro w' hw'
   obtain ⟨⟨W,hbW⟩,hw''⟩:=hw'
   have hw3:w'=W:=hw''
   subst hw3
   have HBW:=hI hbW
   clear hbW hw''
   go_wp2
   go_ret
   exact ⟨qac HVV.out.symm,qaa HX.out.r.b HBW.out⟩
 exact hgoal _ _ hcs hcm
end Go.Proofs.YtlkmagmdhopcjaaGreat
namespace Go.Proofs.YtlkmagmdhopcjaaGreat
open Go.RowKit Go.Sort Go.Lib
set_option maxRecDepth 100000
attribute [local go_sem ↓] qau
attribute [local go_sem] qbf qaq qbd
def othK (self:Int) (k:Nat):Array Int:=(((List.range k).map fun (i:Nat)=>(i:Int) + 1).filter fun x=>decide (x≠self)).toArray
theorem qqv (self:Int) (k:Nat):othK self (k + 1)=if (k:Int) + 1=self then othK self k else (othK self k).push ((k:Int) + 1):=by
 unfold othK
 rw [List.range_succ,List.map_append,List.filter_append]
 by_cases h:(k:Int) + 1=self
 ·rw [if_pos h];simp [h]
 ·rw [if_neg h];simp [h]
theorem qlt (self:Int) (k:Nat):(othK self k).size≤k:=by
 unfold othK
 have:=List.length_filter_le (fun x=>decide (x≠self)) ((List.range k).map fun (i:Nat)=>(i:Int) + 1)
 simpa using this
structure OU where
 t:Int
 m:PM
instance:Inhabited OU:=⟨⟨0,⟨0,0,0,0,0,0,0,0,⟨#[]⟩,0,0,none,0,#[],none,0,#[],0⟩⟩⟩
def qcg (x:OU):List Value:=.int .i64 x.t :: (msgC x.m).toList
theorem qqw (x:OU):(qcg x).length=15:=rfl
theorem encOU_1 (x:OU):∀ u ∈ qcg x,u.oneCell'=true:=by
 intro u hu
 simp [qcg,msgC] at hu
 rcases hu with rfl | rfl | rfl | rfl | rfl | rfl | rfl | rfl | rfl | rfl | rfl | rfl | rfl | rfl | rfl <;> rfl
set_option maxHeartbeats 4000000 in
theorem qxa (r:RP) (w:World) (hn:1≤r.n∧r.n≤9) :
 Calls Tryz.prog 146 #[.agg (encP r).toArray] w fun e w'=>(∃ v,e=.returned v∧w'.ownsRow w.heap.size 3 1 v (othK r.self r.n.toNat).size ((othK r.self r.n.toNat).toList.map (Value.int .i64)))∧Below w.heap.size w w':=by
 obtain ⟨j0,hj0,hy0,hy1,hy2⟩:=info_parts qdu
 obtain ⟨n,hn'⟩:∃ n:Nat,r.n=(n:Int):=⟨r.n.toNat,by omega⟩
 obtain ⟨sf,hsf⟩:∃ x,r.self=x:=⟨_,rfl⟩
 obtain ⟨cs,hcs⟩:∃ cs,cs=(encP r).toArray:=⟨_,rfl⟩
 have HQ0:Hid (cs[0]?=some (.int .i64 (n:Int))):=by show _=_;rw [hcs,←hn'];rfl
 have HQ2:Hid (cs[2]?=some (.int .i64 sf)):=by show _=_;rw [hcs,←hsf];rfl
 have hgoal:∀ x:Array Value,cs=x→Calls Tryz.prog 146 #[.agg x] w fun e w'=>(∃ v,e=.returned v∧w'.ownsRow w.heap.size 3 1 v (othK sf n).size ((othK sf n).toList.map (Value.int .i64)))∧Below w.heap.size w w':=by
  rintro _ rfl
  simp only [encP] at hcs
  have hn9:n≤9:=by omega
  clear hn hn' hsf
  rw [hcs]
  go_enter Tryz.func146,Tryz.ntmps146
  go_upto_region 3 with fail
  rw [←hcs]
  clear hcs
  have HX:=hI (show BoxG w w.heap.size cs 186 (w.alloc (.cells cs 186)) from ⟨bel1 w _,heap_alloc_new w _⟩)
  obtain ⟨w0,hw0⟩:∃ W,W=w.alloc (.cells cs 186):=⟨_,rfl⟩
  have hs0:w.heap.size≤w0.heap.size:=by rw [hw0];simp
  rw [←hw0] at HX ⊢
  clear hw0
  go_loopw [3,4] (fun v i wr=>∃ (k:Nat),i=.int .i64 ((k:Int) + 1)∧k≤n∧wr.ownsRow w0.heap.size 3 1 v (othK sf k).size ((othK sf k).toList.map (Value.int .i64))∧Hid (Below w0.heap.size w0 wr)) (fun _ i _=>n + 1 - (intOf i).toNat)
  case atStart=>exact ⟨0,rfl,Nat.zero_le _,World.ownsRow_nil _ _ _ _,hI (Below.refl _ _)⟩
  case round =>
   obtain ⟨k,rfl,hk,hown,HB⟩:=hrel
   have HXk:=hI (HX.out.next HB.out)
   have c0:=HXk.out.at_ 0 HQ0.out
   have c2:=HXk.out.at_ 2 HQ2.out
   have hBs:=HB.out.size
   by_cases hlt:k < n
   ·have kz:decide ((k:Int) + 1≤(n:Int))=true:=decide_eq_true (by omega)
    by_cases hs:(k:Int) + 1=sf
    ·have hs':((k:Int) + 1 != sf)=false:=by simp [hs]
     go_wp2
     go_roundw
     case rel=>exact ⟨k + 1,by go_num,by omega,by rw [qqv,if_pos hs];exact hown,HB⟩
     case measure=>simp [intOf];omega
    ·have hs':((k:Int) + 1 != sf)=true:=by simp [hs]
     have hoz:=qlt sf k
     go_wp2_with (at_builtin;refine wpList_append_own _ rfl _ _ 26 rfl w0.heap.size 3 j0 (.int .i64 0) 1 8 Tryz.underlying26 hj0 hy0 hy1 hy2 rfl (by decide) _ _ _ rfl (World.ownsRow.alloc hown _) ⟨wr.heap.size,0,none⟩ 1 1 [.int .i64 ((k:Int) + 1)] rfl rfl (qjq _ _ _) (by simp [Value.oneCell']) (by unfold maxLen;omega) (by omega) (by simp;omega) ?_;intro v' w4 hown4 hgrow _;have HB4:=hI (qfm HB.out hown hgrow))
     go_roundw
     case rel=>exact ⟨k + 1,by go_num,by omega,by rw [qqv,if_neg hs];simpa using hown4,HB4⟩
     case measure=>simp [intOf];omega
   ·have hlt':decide ((k:Int) + 1≤(n:Int))=false:=decide_eq_false (by omega)
    obtain rfl:k=n:=by omega
    go_wp2
    go_ret
    exact ⟨⟨_,rfl,qdh hown hs0⟩,HXk.out.b⟩
 have:=hgoal _ hcs
 rw [←hsf,show n=r.n.toNat by omega] at this
 exact this
end Go.Proofs.YtlkmagmdhopcjaaGreat
namespace Go.Proofs.YtlkmagmdhopcjaaGreat
open Go.RowKit Go.Sort Go.Lib
set_option maxRecDepth 100000
def qlu (t:TypeId) (v x:Value):Sem Unit:=Instr.storeAt t v x
theorem qhc (ρ:Operand→Value) (dst:Option Tmp) (x y:Operand) (ty:TypeId) (pos:String) (after:Array Edge) (guard:Option (Nat×Bool)) :
 execOp ρ { dst,op:=.store 53 x y,type:=ty,pos,after,guard }=(do qlu 53 (ρ x) (ρ y);pure .skip):=rfl
theorem qjg (W:World) (g:Nat) (cs:Array Value) (h:qap W g 15=true) (hc:cs.size=15) (h1:qbt cs=true) :
 (qlu 53 (.pointer (some ⟨g,0,none⟩)) (.agg cs)).run Tryz.prog W=.ok () (W.setRow g cs):=by
 obtain ⟨t,h2,h3⟩:=qey h
 simp only [qlu,Instr.storeAt,Instr.sureAddr,Sem.run_bind,Sem.run_pure,Result.andThen]
 exact run_storeVar_row W g t 53 _ cs h2 (by rw [hc];kernel_rfl) (by rw [h3,hc]) h1
theorem qsz {W:World} {g:Nat} {cs:Array Value} {T:TypeId} (h:W.heap[g]?=some (.cells cs T (0,0))) (hc:cs.size=15):(loadVar 53 ⟨g,0,none⟩).run Tryz.prog W=.ok (.agg cs) W :=
 run_loadVar_row W g T 53 cs (0,0) _ h Tryz.underlying53 rfl (by rw [hc];kernel_rfl)
theorem qta {fn:Func} {t:Tmp} (hf:fn.results=#[.cell t 53]) {tm:Array Value} {W:World} {g:Nat} {cs:Array Value} {T:TypeId} (hg:tm.getD t undef=.pointer (some ⟨g,0,none⟩)) (h:W.heap[g]?=some (.cells cs T (0,0))) (hc:cs.size=15):(results fn tm).run Tryz.prog W=.ok (.agg cs) W:=by
 have hg2:tm[t]?.getD undef=.pointer (some ⟨g,0,none⟩):=by rw [←Array.getD_eq_getD_getElem?];exact hg
 simp [results,hf,hg2,asAddr,qsz h hc]
attribute [local go_sem ↓] qak qai qau qhc
attribute [local go_sem] qao qaj qah qaq qbd qbf qjg
theorem out_fold (t:Int) (m:PM):Array.foldl (fun (cs:Array Value) (x:Value×Nat)=>cs.setIfInBounds (1 + x.snd) x.fst) #[.int .i64 t,.int .i64 0,.int .i64 0,.int .i64 0,.int .i64 0,.int .i64 0,.int .i64 0,.int .i64 0,.int .i64 0,.string ⟨#[]⟩,.int .i64 0,.int .i64 0,.slice none 0 0,.slice none 0 0,.int .i64 0] (msgC m).zipIdx 0 14=(qcg ⟨t,m⟩).toArray:=by kernel_rfl
def zerO:Array Value:=#[.int .i64 0,.int .i64 0,.int .i64 0,.int .i64 0,.int .i64 0,.int .i64 0,.int .i64 0,.int .i64 0,.int .i64 0,.string ⟨#[]⟩,.int .i64 0,.int .i64 0,.slice none 0 0,.slice none 0 0,.int .i64 0]
theorem qpf:(Tryz.prog.info? 53).map (fun i=>(i.zero,i.size,i.bytes))=some (some (.agg #[.int .i64 0,.int .i64 0,.int .i64 0,.int .i64 0,.int .i64 0,.int .i64 0,.int .i64 0,.int .i64 0,.int .i64 0,.string ⟨#[]⟩,.int .i64 0,.int .i64 0,.slice none 0 0,.slice none 0 0,.int .i64 0]),15,160):=by kernel_rfl
theorem rowO {cu:Array Value} {x:OU} (h:cu=(qcg x).toArray):cu.size=15∧qbt cu=true:=by
 subst h
 exact ⟨rfl,by simp [qcg,msgC,Value.oneCell',qbt]⟩
set_option maxHeartbeats 4000000 in
theorem one_any (r:RP) (m:PM) (t:Int) (w:World) :
 Calls Tryz.prog 145 #[.agg (encP r).toArray,.int .i64 t,.agg (msgC m)] w fun e w'=>e=.returned (.agg (qcg ⟨t,{ m with fr:=r.self }⟩).toArray)∧Below w.heap.size w w':=by
 obtain ⟨sf,hsf⟩:∃ x,r.self=x:=⟨_,rfl⟩
 obtain ⟨cs,hcs⟩:∃ cs,cs=(encP r).toArray:=⟨_,rfl⟩
 obtain ⟨cm,hcm⟩:∃ cm,cm=msgC m:=⟨_,rfl⟩
 obtain ⟨cu,hcu⟩:∃ cu,cu=(qcg ⟨t,{ m with fr:=sf }⟩).toArray:=⟨_,rfl⟩
 obtain ⟨hsu,h1u⟩:=rowO hcu
 have HQ2:Hid (cs[2]?=some (.int .i64 sf)):=by show _=_;rw [hcs,←hsf];rfl
 have HM1:Hid (cm[1]?=some (.int .i64 m.fr)):=by show _=_;rw [hcm];rfl
 obtain ⟨cm2,hcm2⟩:∃ c,c=msgC { m with fr:=sf }:=⟨_,rfl⟩
 have HS:Hid (cm.setIfInBounds 1 (.int .i64 sf)=cm2):=by show _=_;rw [hcm,hcm2];rfl
 have HBF:Array.foldl (fun (cs:Array Value) (x:Value×Nat)=>cs.setIfInBounds (1 + x.snd) x.fst) #[.int .i64 t,.int .i64 0,.int .i64 0,.int .i64 0,.int .i64 0,.int .i64 0,.int .i64 0,.int .i64 0,.int .i64 0,.string ⟨#[]⟩,.int .i64 0,.int .i64 0,.slice none 0 0,.slice none 0 0,.int .i64 0] cm2.zipIdx 0 14=cu:=by rw [hcm2,hcu];exact out_fold t _
 have hs2:cm2.size=14:=by rw [hcm2];rfl
 rw [hsf,←hcu]
 clear hsf hcu hcm2
 have hgoal:∀ x y:Array Value,cs=x→cm=y→Calls Tryz.prog 145 #[.agg x,.int .i64 t,.agg y] w fun e w'=>e=.returned (.agg cu)∧Below w.heap.size w w':=by
  rintro _ _ rfl rfl
  simp only [encP] at hcs
  simp only [msgC] at hcm
  rw [hcs,hcm]
  go_enter Tryz.func145,Tryz.ntmps145
  rw [←hcs,←hcm]
  clear hcs hcm
  have HX:=hI (BoxG.t1 w cs cm zerO 186 37 53)
  have HM:=hI (BoxG.t2 w cs cm zerO 186 37 53)
  have HZ:=hI (BoxG.t3 w cs cm zerO 186 37 53)
  simp only [zerO] at HX HM HZ
  go_upto_region 1 with fail
  obtain ⟨w0,hw0⟩:∃ W,W=(((w.alloc (.cells cs 186)).alloc (.cells cm 37)).alloc (.cells #[.int .i64 0,.int .i64 0,.int .i64 0,.int .i64 0,.int .i64 0,.int .i64 0,.int .i64 0,.int .i64 0,.int .i64 0,.string ⟨#[]⟩,.int .i64 0,.int .i64 0,.slice none 0 0,.slice none 0 0,.int .i64 0] 53)):=⟨_,rfl⟩
  rw [←hw0] at HX HM HZ ⊢
  clear hw0
  have c2:=HX.out.at_ 2 HQ2.out
  have m1:=HM.out.at_ 1 HM1.out
  have f1:=HM.out.froz 1
  go_upto_region 2 with fail
  have HM2:=hI (HM.out.set (by omega) 1 (.int .i64 sf))
  have HZ2:=hI (HZ.out.far (g2:=w.heap.size + 1) (by omega) (by omega) 1 (.int .i64 sf))
  rw [HS.out] at HM2
  have x3:=HM2.out.box hs2
  have x4:=HM2.out.rowAt
  have x5:=HZ2.out.box (n:=15) rfl
  clear c2 m1 f1
  go_wp2
  refine bodyPost_ret (qta rfl rfl (setRow_heap _ _ _ _ _ _ HZ2.out.row) hsu) rfl ?_
  exact ⟨rfl,HM2.out.b.trans ⟨rfl,rfl,rfl,by simp,fun j hj=>setRow_other _ _ j _ (by omega)⟩⟩
 exact hgoal _ _ hcs hcm
end Go.Proofs.YtlkmagmdhopcjaaGreat
namespace Go.Proofs.YtlkmagmdhopcjaaGreat
open Go.RowKit Go.Sort Go.Lib
set_option maxRecDepth 100000
attribute [local go_sem ↓] qak qai qau qhc
attribute [local go_sem] qao qaj qah qaq qbd qbf qjg
def qpg (m:PM) (l:List Int):List OU:=l.map fun t=>⟨t,m⟩
def qlv (os:List OU):List Value:=os.flatMap qcg
theorem qxb (os:List OU) (x:OU):qlv (os ++ [x])=qlv os ++ qcg x:=by simp [qlv]
theorem qxc (m:PM) (l:List Int) (t:Int):qpg m (l ++ [t])=qpg m l ++ [⟨t,m⟩]:=by simp [qpg]
def allO (r:RP) (m:PM):List OU:=qpg { m with fr:=r.self } (othK r.self r.n.toNat).toList
theorem news_at {W:World} {cu:Array Value} {x:OU} (h:cu=(qcg x).toArray) (T:TypeId) (j:Nat) (u:Value) (hj:(qcg x)[j]?=some u):(W.alloc (.cells cu T)).cell? (Addr.add ⟨W.heap.size,0,none⟩ j)=some u:=by
 rw [Addr.add_lit,Nat.zero_add,cell_of_row _ _ j _ _ (0,0) (heap_alloc_new W _),h]
 simpa using hj
theorem qqx (r:RP):Array.foldl (fun (cs:Array Value) (x:Value×Nat)=>cs.setIfInBounds x.snd x.fst) #[.int .i64 0,.int .i64 0,.int .i64 0,.int .i64 0,.int .i64 0,.int .i64 0,.int .i64 0,.slice none 0 0,.slice none 0 0,.slice none 0 0,.slice none 0 0,.slice none 0 0,.slice none 0 0,.int .i64 0,.int .i64 0,.int .i64 0,.slice none 0 0,.slice none 0 0] (encP r).toArray.zipIdx 0 18=(encP r).toArray:=by kernel_rfl
theorem outs_fold (x:OU):Array.foldl (fun (cs:Array Value) (x:Value×Nat)=>cs.setIfInBounds x.snd x.fst) #[.int .i64 0,.int .i64 0,.int .i64 0,.int .i64 0,.int .i64 0,.int .i64 0,.int .i64 0,.int .i64 0,.int .i64 0,.string ⟨#[]⟩,.int .i64 0,.int .i64 0,.slice none 0 0,.slice none 0 0,.int .i64 0] (qcg x).toArray.zipIdx 0 (qcg x).toArray.size=(qcg x).toArray:=by kernel_rfl
theorem take_snoc {l:List Int} {k:Nat} {S:Array Int} (hl:l=S.toList) (hk:k < S.size):l.take (k + 1)=l.take k ++ [S[k]!]:=by
 subst hl
 rw [List.take_add_one,getElem!_pos S k hk,List.getElem?_eq_getElem (by simpa using hk)]
 simp
set_option maxHeartbeats 8000000 in
theorem qjz (r:RP) (m:PM) (w:World) (h:RdP w r) (hf:FewC r) :
 Calls Tryz.prog 64 #[.agg (encP r).toArray,.agg (msgC m)] w fun e w'=>(∃ v,e=.returned v∧(chkR r=true→w'.ownsRow w.heap.size 53 15 v (allO r m).length (qlv (allO r m)))∧(chkR r=false→v=.slice none 0 0))∧Below w.heap.size w w':=by
 obtain ⟨i0,hi0,hz0,hz1,hz2⟩:=info_parts qpf
 have HC:Hid (∀ W,Below w.heap.size w W→Calls Tryz.prog 15 #[.agg (encP r).toArray] W fun e w'=>e=.returned (.int .i64 (repE r))∧Below W.heap.size W w'):=fun W hb=>qbh r W (h.below hb) hf
 have HOt:Hid ((1≤r.n∧r.n≤9)→∀ W,Calls Tryz.prog 146 #[.agg (encP r).toArray] W fun e w'=>(∃ v,e=.returned v∧w'.ownsRow W.heap.size 3 1 v (othK r.self r.n.toNat).size ((othK r.self r.n.toNat).toList.map (Value.int .i64)))∧Below W.heap.size W w'):=fun hn W=>qxa r W hn
 have HOn:Hid (∀ t W,Calls Tryz.prog 145 #[.agg (encP r).toArray,.int .i64 t,.agg (msgC m)] W fun e w'=>e=.returned (.agg (qcg ⟨t,{ m with fr:=r.self }⟩).toArray)∧Below W.heap.size W w'):=fun t W=>one_any r m t W
 have hmf:∀ (fn:Fn) (first cap:Array Value) (w:World),(Instr.makeFunc fn first cap).run Tryz.prog w=.ok (.func fn first cap) w:=fun _ _ _ _=>rfl
 have HAL:Hid (allO r m=qpg { m with fr:=r.self } (othK r.self r.n.toNat).toList):=rfl
 have hoz:=qlt r.self r.n.toNat
 have HN:=hI (fun hc:chkR r=true=>(qet hc).1)
 obtain ⟨cs,hcs⟩:∃ cs,cs=(encP r).toArray:=⟨_,rfl⟩
 obtain ⟨hsz,hone⟩:=rowP hcs
 obtain ⟨cm,hcm⟩:∃ cm,cm=msgC m:=⟨_,rfl⟩
 have hsm:cm.size=14:=by rw [hcm];rfl
 have HBF:Array.foldl (fun (cs:Array Value) (x:Value×Nat)=>cs.setIfInBounds x.snd x.fst) #[.int .i64 0,.int .i64 0,.int .i64 0,.int .i64 0,.int .i64 0,.int .i64 0,.int .i64 0,.slice none 0 0,.slice none 0 0,.slice none 0 0,.slice none 0 0,.slice none 0 0,.slice none 0 0,.int .i64 0,.int .i64 0,.int .i64 0,.slice none 0 0,.slice none 0 0] cs.zipIdx 0 18=cs:=by rw [hcs];exact qqx r
 obtain ⟨m2,hm2⟩:∃ m2,({ m with fr:=r.self }:PM)=m2:=⟨_,rfl⟩
 obtain ⟨S,hS⟩:∃ S,othK r.self r.n.toNat=S:=⟨_,rfl⟩
 obtain ⟨AL,hAL⟩:∃ A,allO r m=A:=⟨_,rfl⟩
 rw [hS,hm2,hAL] at HAL
 rw [hS] at hoz HOt
 rw [hm2] at HOn
 rw [hAL]
 rw [←hcs] at HC HOt
 rw [←hcs,←hcm] at HOn
 have HOU:Hid (∀ t W,Calls Tryz.prog 145 #[.agg cs,.int .i64 t,.agg cm] W fun e w'=>(∃ cu:Array Value,e=.returned (.agg cu)∧cu=(qcg ⟨t,m2⟩).toArray∧cu.size=15∧Array.foldl (fun (cs:Array Value) (x:Value×Nat)=>cs.setIfInBounds x.snd x.fst) #[.int .i64 0,.int .i64 0,.int .i64 0,.int .i64 0,.int .i64 0,.int .i64 0,.int .i64 0,.int .i64 0,.int .i64 0,.string ⟨#[]⟩,.int .i64 0,.int .i64 0,.slice none 0 0,.slice none 0 0,.int .i64 0] cu.zipIdx 0 cu.size=cu)∧Below W.heap.size W w'):=fun t W=>(HOn.out t W).mono fun e w' ⟨he,hb⟩=>⟨⟨_,he,rfl,rfl,outs_fold _⟩,hb⟩
 clear HOn
 clear h hf hm2 hS hAL
 have hgoal:∀ x y:Array Value,cs=x→cm=y→Calls Tryz.prog 64 #[.agg x,.agg y] w fun e w'=>(∃ v,e=.returned v∧(chkR r=true→w'.ownsRow w.heap.size 53 15 v AL.length (qlv AL))∧(chkR r=false→v=.slice none 0 0))∧Below w.heap.size w w':=by
  rintro _ _ rfl rfl
  simp only [encP] at hcs
  simp only [msgC] at hcm
  rw [hcs,hcm]
  go_enter Tryz.func64,Tryz.ntmps64
  rw [←hcs,←hcm]
  clear hcs hcm
  have HX:=hI (BoxRM.init w cs cm)
  have x1:=HX.out.r.box hsz
  have x2:=HX.out.r.rowAt
  by_cases hc:chkR r=true
  ·rw [qcw hc] at HC
   have hn9:=HN.out hc
   have HOt:=hI (HOt.out ⟨by omega,hn9.2⟩)
   have hrn:r.n.toNat≤9:=by omega
   go_upto_region 6 with (first
    | (go_at_call 15;refine (HC.out _ HX.out.r.b).mono ?_;rintro _ w1 ⟨rfl,hb⟩;have HX1:=hI (HX.out.next hb);clear hb x1 x2;have x1:=HX1.out.r.box hsz;have x2:=HX1.out.r.rowAt)
    | (go_at_call 146;refine (HOt.out _).mono ?_;rintro _ w2 ⟨⟨vo,rfl,hvo⟩,hb⟩;have HX2:=hI (HX1.out.next hb);obtain ⟨⟨xA,xc,xz⟩,hxv,hxz,hxr⟩:=qdr hvo;have hxz':xz=S:=(by rw [show xz=_ from hxz]);have hxv':vo=.slice xA xz.size xc:=hxv;subst hxv' hxz';have HXR:=hI hxr.rd;clear hb hvo x1 x2 hxz hxv hxr))
   clear HBF HC HX HX1
   go_loopw [6,8,19] (fun v t8 i wr=>∃ k:Nat,i=.int .i64 k∧k≤xz.size∧wr.ownsRow w2.heap.size 53 15 v k (qlv (qpg m2 (xz.toList.take k)))∧Hid (Below w2.heap.size w2 wr)) (fun _ _ i _=>xz.size - (intOf i).toNat)
   case atStart=>exact ⟨0,rfl,Nat.zero_le _,World.ownsRow_nil _ _ _ _,hI (Below.refl _ _)⟩
   case round =>
    obtain ⟨k,rfl,hk,hown,HB⟩:=hrel
    have HXk:=hI (HX2.out.next HB.out)
    have hBs:=HB.out.size
    by_cases hlt:k < xz.size
    ·have kz:(k:Int) < (xz.size:Int):=by omega
     obtain ⟨bs,os,rfl,hbs,fs⟩:=HXR.out (by omega)
     have ck:=(HB.out.cell (p:=⟨bs,os + k,none⟩) hbs).trans (fs k hlt)
     have HTS:=hI (take_snoc (l:=xz.toList) rfl hlt)
     obtain ⟨t,ht⟩:∃ t,xz[k]! = t:=⟨_,rfl⟩
     rw [ht] at ck HTS
     clear fs ht
     have x3:=HXk.out.m.box hsm
     have x4:=HXk.out.m.rowAt
     go_wp2_with (first
      | (go_at_call 145;refine (HOU.out _ _).mono ?_;rintro _ w3 ⟨⟨cu,rfl,hcu,hsu,hfu⟩,hb⟩;have hfv:=hfu;rw [hsu] at hfv;have HB3:=hI (qaa HB.out hb);have HCU:=hI hcu;have hB3s:=HB3.out.size;have hown3:=qht hown hb;clear hcu hb x3 x4 ck)
      | (at_builtin;refine wpList_append_own _ rfl _ _ 41 rfl w2.heap.size 53 i0 (.agg #[.int .i64 0,.int .i64 0,.int .i64 0,.int .i64 0,.int .i64 0,.int .i64 0,.int .i64 0,.int .i64 0,.int .i64 0,.string ⟨#[]⟩,.int .i64 0,.int .i64 0,.slice none 0 0,.slice none 0 0,.int .i64 0]) 15 160 Tryz.underlying41 hi0 hz0 hz1 hz2 rfl (by decide) _ _ _ rfl (World.ownsRow.alloc hown3 _) ⟨w3.heap.size,0,none⟩ 1 1 (qcg ⟨t,m2⟩) rfl rfl (news_at HCU.out _) (encOU_1 _) (by unfold maxLen;omega) (by omega) (by simp;omega) ?_;intro v' w4 hown4 hgrow _;have HB4:=hI (qfm HB3.out hown3 hgrow)))
     go_roundw
     case rel=>exact ⟨k + 1,by go_num,by omega,by rw [HTS.out,qxc,qxb];exact hown4,HB4⟩
     case measure=>simp [intOf];omega
    ·have hlt':decide ((k:Int) < (xz.size:Int))=false:=decide_eq_false (by omega)
     obtain rfl:k=xz.size:=by omega
     go_wp2
     go_ret
     refine ⟨⟨_,rfl,fun _=>?_,fun h=>absurd hc (by rw [h];decide)⟩,HXk.out.r.b⟩
     rw [HAL.out]
     have hle:=HX2.out.r.b.size
     have:=qdh hown hle
     rw [List.take_of_length_le (by simp)] at this
     simpa [qpg] using this
  ·rw [qhj hc] at HC
   have HCF:Hid (chkR r=false):=by show _=_;simpa using hc
   have HCN:=hI hc
   clear hc
   go_wp2_with (go_at_call 15;refine (HC.out _ HX.out.r.b).mono ?_;rintro _ w1 ⟨rfl,hb⟩;have HX1:=hI (HX.out.next hb);clear hb x1 x2)
   go_ret
   exact ⟨⟨_,rfl,fun h=>absurd h HCN.out,fun _=>rfl⟩,HX1.out.r.b⟩
 exact hgoal _ _ hcs hcm
end Go.Proofs.YtlkmagmdhopcjaaGreat
namespace Go.Proofs.YtlkmagmdhopcjaaGreat
open Go.RowKit Go.Sort Go.Lib
set_option maxRecDepth 100000
def catO (m:Array (RW OU)):Nat→Array OU
 | 0=>#[]
 | k + 1=>catO m k ++ m[k]!.z
set_option maxHeartbeats 4000000 in
theorem GrowO_any (N:Nat) (w:World) (hN:N≤1000000) :
 Calls Tryz.prog 204 #[.slice none 0 0,.int .i64 N] w fun e w'=>∃ v,e=.returned v∧w'.ownsRow w.heap.size 53 15 v 0 []∧Below w.heap.size w w':=by
 obtain ⟨j0,hj0,hy0,hy1,hy2⟩:=info_parts qpf
 have e1:decide ((N:Int) < 0)=false:=decide_eq_false (by omega)
 by_cases h0:0 < N
 ·have hrun:=Lib.run_append_nil_zeros (P:=Tryz.prog) w 41 3 41 53 j0 (.agg zerO) .i64 .i64 Tryz.underlying41 Tryz.underlying3 hj0 hy0 N h0 (by rw [hy1];decide) (by omega) (by rw [hy2];omega)
  have e2:decide (0 < (N:Int))=true:=decide_eq_true (by omega)
  obtain ⟨G,hG⟩:∃ G,grownCap w N 0 53 = G:=⟨_,rfl⟩
  have hge:N≤G:=by rw [←hG];exact grownCap_ge w N 0 53
  have hle:G≤maxLen:=by rw [←hG];exact grownCap_le_maxLen w N 0 53 (by unfold maxLen;omega)
  rw [hG] at hrun
  obtain ⟨ZC,hZC⟩:∃ Z,Builtin.zeroCells (Value.agg zerO).cells N ++ Builtin.zeroCells (Value.agg zerO).cells (G - N)=Z:=⟨_,rfl⟩
  have hzs:ZC.size=G * 15:=by
   rw [←hZC,Array.size_append,size_zeroCells,size_zeroCells]
   show N * 15 + (G - N) * 15=G * 15
   omega
  rw [hZC] at hrun
  have HO:Hid ((w.drew.alloc (.cells ZC 53)).ownsRow w.heap.size 53 15 (.slice (some ⟨w.heap.size,0,none⟩) 0 G) 0 []):=hI (World.ownsRow_made w.drew ZC G (Nat.le_refl _) hle (by omega))
  have HB:Hid (Below w.heap.size w (w.drew.alloc (.cells ZC 53))):=hI ((Below.refl _ w).drew.alloc (Nat.le_refl _) _)
  obtain ⟨w1,hw1⟩:∃ W,W=w.drew.alloc (.cells ZC 53):=⟨_,rfl⟩
  rw [←hw1] at HO HB hrun
  clear hw1 hG hZC hzs hle
  go_enter Tryz.func204,Tryz.ntmps204
  go_wp2_with (at_builtin;refine Lib.wpList_append_run _ rfl _ _ _ _ rfl _ _ rfl rfl _ _ hrun ?_)
  go_ret
  exact ⟨_,rfl,HO.out,HB.out⟩
 ·obtain rfl:N=0:=by omega
  go_enter Tryz.func204,Tryz.ntmps204
  go_wp2
  go_ret
  exact ⟨_,rfl,World.ownsRow_nil _ _ _ _,Below.refl _ _⟩
set_option maxHeartbeats 8000000 in
theorem qtb (A:Option Addr) (c:Nat) (m:Array (RW OU)) (w:World) (h:RdK encW 1 w.heap.size w A m) (hr:∀ i,i < m.size→RdN qcg 15 w m[i]!) (hm:m.size≤1000) (hz:∀ k,k≤m.size→(catO m k).size≤100000) :
 Calls Tryz.prog 137 #[.slice A m.size c] w fun e w'=>∃ v,e=.returned v∧w'.ownsRow w.heap.size 53 15 v (catO m m.size).size (flatK qcg 15 (catO m m.size)).toList∧Below w.heap.size w w':=by
 obtain ⟨j0,hj0,hy0,hy1,hy2⟩:=info_parts qpf
 have HR:=hI h
 have HJ:=hI hr
 have HZ:=hI hz
 have HS:Hid (∀ k,catO m (k + 1)=catO m k ++ m[k]!.z):=fun k=>rfl
 clear h hr hz
 go_enter Tryz.func137,Tryz.ntmps137
 go_wp2
 go_loop [3,11] (fun sz i=>∃ k:Nat,i=.int .i64 k∧k≤m.size∧sz=.int .i64 ((catO m k).size:Int)) (fun _ i=>m.size - (intOf i).toNat)
 case atStart=>exact ⟨0,rfl,Nat.zero_le _,rfl⟩
 case round =>
  obtain ⟨k,rfl,hk,rfl⟩:=hrel
  have hkn:=HZ.out k hk
  by_cases hlt:k < m.size
  ·have kz:(k:Int) < (m.size:Int):=by omega
   have hs:(catO m (k + 1)).size=(catO m k).size + m[k]!.z.size:=by rw [HS.out,Array.size_append]
   have hkn1:=HZ.out (k + 1) hlt
   rw [hs] at hkn1
   have HSZ:=hI hs
   obtain ⟨b,off,rfl,hbl,f⟩:=HR.out.at_ (i:=k) hlt
   have e0:=f 0 (by omega)
   simp only [Nat.add_zero,Nat.mul_one,encW,RW.v,List.getElem!_cons_zero] at e0
   obtain ⟨u,hu⟩:∃ u,m[k]! = u:=⟨_,rfl⟩
   rw [hu] at e0 hkn1 HSZ
   obtain ⟨p,hp⟩:∃ p,(catO m k).size=p:=⟨_,rfl⟩
   rw [hp] at hkn hkn1 HSZ ⊢
   have e2:decide ((p:Int) + (u.z.size:Int) < 0)=false:=decide_eq_false (by omega)
   clear hs hu f hp
   go_wp2
   go_round
   case rel=>exact ⟨k + 1,by go_num,by omega,by rw [HSZ.out];go_num⟩
   case measure=>simp [intOf];omega
  ·have hlt':decide ((k:Int) < (m.size:Int))=false:=decide_eq_false (by omega)
   obtain rfl:k=m.size:=by omega
   have HG:=hI (GrowO_any (catO m m.size).size w (by omega))
   go_wp2_with (go_at_call 204;refine HG.out.mono ?_;rintro _ w1 ⟨v0,rfl,hown,hb⟩;have HO:=hI hown;have HB1:=hI hb;clear hown hb)
   go_loopw [6,27] (fun v i wr=>∃ (k:Nat),i=.int .i64 k∧k≤m.size∧wr.ownsRow w.heap.size 53 15 v (catO m k).size (flatK qcg 15 (catO m k)).toList∧Hid (Below w.heap.size w wr)) (fun _ i _=>m.size - (intOf i).toNat)
   case atStart=>exact ⟨0,rfl,Nat.zero_le _,by show World.ownsRow _ _ _ _ _ 0 (flatK qcg 15 #[]).toList;rw [qgf];exact HO.out,HB1⟩
   case round =>
    obtain ⟨k,rfl,hk,hown,HB⟩:=hrel
    have hkn2:=HZ.out k hk
    have hBs:=HB.out.size
    by_cases hlt:k < m.size
    ·have kz:(k:Int) < (m.size:Int):=by omega
     have hkn1:=HZ.out (k + 1) hlt
     rw [HS.out,Array.size_append] at hkn1
     obtain ⟨b,off,rfl,hbl,f⟩:=(HR.out.below HB.out).at_ (i:=k) hlt
     have e0:=f 0 (by omega)
     have HJk:=hI ((HJ.out k hlt).below HB.out)
     have HSk:=hI (HS.out k)
     obtain ⟨u,hu⟩:∃ u,m[k]! = u:=⟨_,rfl⟩
     rw [hu] at e0 HJk HSk hkn1
     clear hu f
     simp only [Nat.add_zero,Nat.mul_one,encW,RW.v,List.getElem!_cons_zero] at e0
     obtain ⟨x,hx⟩:∃ x,catO m k=x:=⟨_,rfl⟩
     rw [hx] at hown HSk hkn1 hkn2
     clear hx
     go_wp2_with (at_builtin;refine qfg encOU_1 qqw (by decide) rfl _ _ 41 rfl w.heap.size 53 j0 (.agg zerO) 160 Tryz.underlying41 hj0 hy0 hy1 hy2 rfl _ x rfl hown wr.heap.size u.A u.c u.z rfl HJk.out.rd HJk.out.no (by omega) (by decide) (by omega) ?_;intro v' w3 hown3 hgrow _;have HB3:=hI (HB.out.grown hgrow hBs (qmr hown)))
     go_roundw
     case rel=>exact ⟨k + 1,by go_num,by omega,by rw [HSk.out];exact hown3,HB3⟩
     case measure=>simp [intOf];omega
    ·have hlt':decide ((k:Int) < (m.size:Int))=false:=decide_eq_false (by omega)
     obtain rfl:k=m.size:=by omega
     go_wp2
     go_ret
     exact ⟨_,rfl,hown,HB.out⟩
theorem qxd (A:Option Addr) (c:Nat) (m:Array (RW OU)) (w:World) (h:RdK encW 1 w.heap.size w A m) (hr:∀ i,i < m.size→RdN qcg 15 w m[i]!) (hm:m.size≤1000) (hz:∀ k,k≤m.size→(catO m k).size≤100000) :
 Calls Tryz.prog 54 #[.slice A m.size c] w fun e w'=>∃ v,e=.returned v∧w'.ownsRow w.heap.size 53 15 v (catO m m.size).size (flatK qcg 15 (catO m m.size)).toList∧Below w.heap.size w w':=by
 have HC:=hI (qtb A c m w h hr hm hz)
 clear h hr hz
 go_enter Tryz.func54,Tryz.ntmps54
 go_wp2_with (go_at_call 137;refine HC.out.mono ?_;rintro _ w1 ⟨v,rfl,hown,hb⟩;have HO:=hI hown;have HB:=hI hb;clear hown hb)
 go_ret
 exact ⟨_,rfl,HO.out,HB.out⟩
end Go.Proofs.YtlkmagmdhopcjaaGreat
namespace Go.Proofs.YtlkmagmdhopcjaaGreat
open Go.RowKit Go.Sort Go.Lib
set_option maxRecDepth 100000
attribute [local go_sem ↓] qak qai
attribute [local go_sem] qao qaj qah qaq qbd
def dueK (d:Array EN):Nat→Array Int
 | 0=>#[]
 | k + 1=>if qit d[k]!.ph && decide (6≤d[k]!.age) then (dueK d k).push d[k]!.id else dueK d k
theorem qqy (d:Array EN) (k:Nat):(dueK d k).size≤k:=by
 induction k with
 | zero=>exact Nat.le_refl _
 | succ k ih =>
   unfold dueK
   split
   ·simp;omega
   ·omega
def dueR (r:RP):Array Int:=if chkR r=true∧r.ticks.tmod (8 * r.n)=0 then dueK r.e.z r.e.z.size else #[]
set_option maxHeartbeats 8000000 in
theorem due_any (r:RP) (w:World) (h:RdP w r) (hf:FewC r) :
 Calls Tryz.prog 25 #[.agg (encP r).toArray] w fun e w'=>(∃ v,e=.returned v∧w'.ownsRow w.heap.size 3 1 v (dueR r).size ((dueR r).toList.map (Value.int .i64)))∧Below w.heap.size w w':=by
 obtain ⟨j0,hj0,hy0,hy1,hy2⟩:=info_parts qdu
 have HC:Hid (∀ W,Below w.heap.size w W→Calls Tryz.prog 15 #[.agg (encP r).toArray] W fun e w'=>e=.returned (.int .i64 (repE r))∧Below W.heap.size W w'):=fun W hb=>qbh r W (h.below hb) hf
 have HDR:Hid (dueR r=if chkR r=true∧r.ticks.tmod (8 * r.n)=0 then dueK r.e.z r.e.z.size else #[]):=rfl
 have HRE:=hI h.e.rd
 have hez:=hf.es
 have HN:=hI (fun hc:chkR r=true=>(qet hc).1)
 obtain ⟨cs,hcs⟩:∃ cs,cs=(encP r).toArray:=⟨_,rfl⟩
 obtain ⟨hsz,hone⟩:=rowP hcs
 have HQ0:Hid (cs[0]?=some (.int .i64 r.n)):=by show _=_;rw [hcs];rfl
 have HQ6:Hid (cs[6]?=some (.int .i64 r.ticks)):=by show _=_;rw [hcs];rfl
 have HQ7:Hid (cs[7]?=some (.slice r.e.A r.e.z.size r.e.c)):=by show _=_;rw [hcs];rfl
 obtain ⟨D,hD⟩:∃ D,dueR r=D:=⟨_,rfl⟩
 rw [hD] at HDR ⊢
 rw [←hcs] at HC
 clear h hf hD
 have hgoal:∀ x:Array Value,cs=x→Calls Tryz.prog 25 #[.agg x] w fun e w'=>(∃ v,e=.returned v∧w'.ownsRow w.heap.size 3 1 v D.size (D.toList.map (Value.int .i64)))∧Below w.heap.size w w':=by
  rintro _ rfl
  simp only [encP] at hcs
  rw [hcs]
  go_enter Tryz.func25,Tryz.ntmps25
  rw [←hcs]
  clear hcs
  have HX:=hI (show BoxG w w.heap.size cs 35 (w.alloc (.cells cs 35)) from ⟨bel1 w _,heap_alloc_new w _⟩)
  have x1:=HX.out.box hsz
  have x2:=HX.out.rowAt
  by_cases hc:chkR r=true
  ·rw [qcw hc] at HC
   have hn39:=HN.out hc
   have hne:¬ (8 * r.n=0):=by omega
   have hw8:IntKind.i64.wrap (8 * r.n)=8 * r.n:=IntWalk.i64_in _ (by omega)
   by_cases hq:r.ticks.tmod (8 * r.n)=0
   ·rw [if_pos ⟨hc,hq⟩] at HDR
    go_upto_region 5 with (go_at_call 15;refine (HC.out _ HX.out.b).mono ?_;rintro _ w1 ⟨rfl,hb⟩;have HX1:=hI (HX.out.next hb);clear hb x1 x2;have c0:=HX1.out.at_ 0 HQ0.out;have c6:=HX1.out.at_ 6 HQ6.out;have c7:=HX1.out.at_ 7 HQ7.out)
    clear c0 c6 c7 hq hne hw8
    go_loopw [3,5,21] (fun v p i wr=>∃ k:Nat,i=.int .i64 k∧k≤r.e.z.size∧wr.ownsRow w.heap.size 3 1 v (dueK r.e.z k).size ((dueK r.e.z k).toList.map (Value.int .i64))∧Hid (Below w.heap.size w wr)) (fun _ _ i _=>r.e.z.size - (intOf i).toNat)
    case atStart=>exact ⟨0,rfl,Nat.zero_le _,World.ownsRow_nil _ _ _ _,hI HX1.out.b⟩
    case round =>
     obtain ⟨k,rfl,hk,hown,HB⟩:=hrel
     have hBs:=HB.out.size
     have hdz:=qqy r.e.z k
     by_cases hlt:k < r.e.z.size
     ·have kz:(k:Int) < (r.e.z.size:Int):=by omega
      obtain ⟨b,off,hA,hbl,f⟩:=(HRE.out.below HB.out).at_ (i:=k) hlt
      have f':=fun c hc=>f c hc
      have HDK:Hid (dueK r.e.z (k + 1)=if qit r.e.z[k]!.ph && decide (6≤r.e.z[k]!.age) then (dueK r.e.z k).push r.e.z[k]!.id else dueK r.e.z k):=rfl
      obtain ⟨u,hu⟩:∃ u,r.e.z[k]! = u:=⟨_,rfl⟩
      rw [hu] at f HDK
      have e0:=f 0 (by omega)
      have e1:=f 1 (by omega)
      have e2:=f 2 (by omega)
      have e3:=f 3 (by omega)
      have e4:=f 4 (by omega)
      have e5:=f 5 (by omega)
      have e6:=f 6 (by omega)
      have e7:=f 7 (by omega)
      have e8:=f 8 (by omega)
      have e9:=f 9 (by omega)
      simp only [encE,List.getElem!_cons_zero,List.getElem!_cons_succ,Nat.add_zero] at e0 e1 e2 e3 e4 e5 e6 e7 e8 e9
      clear f f' hu
      obtain ⟨ob,hob⟩:∃ o,qit u.ph=o:=⟨_,rfl⟩
      have HO:Hid (∀ W,Calls Tryz.prog 61 #[.int .i64 u.ph] W fun e w'=>e=.returned (.bool ob)∧W=w'):=fun W=>by have:=qhv u.ph W;rw [hob] at this;exact this.mono fun e w' h=>⟨h.1,h.2.symm⟩
      rw [hob] at HDK
      rw [hA]
      go_upto_region 7 with fail
      obtain ⟨wq,hwq⟩:∃ W,W=wr.alloc (.cells #[.int .i64 u.id,.int .i64 u.ph,.int .i64 u.qu,.int .i64 u.t,.int .i64 u.bal,.int .i64 u.abal,.int .i64 u.seen,.int .i64 u.age,.string u.pay,.slice u.A u.z.size u.c] 58):=⟨_,rfl⟩
      have hq:=heap_alloc_new wr (.cells #[.int .i64 u.id,.int .i64 u.ph,.int .i64 u.qu,.int .i64 u.t,.int .i64 u.bal,.int .i64 u.abal,.int .i64 u.seen,.int .i64 u.age,.string u.pay,.slice u.A u.z.size u.c] 58)
      have hownq:=hown.alloc (.cells #[.int .i64 u.id,.int .i64 u.ph,.int .i64 u.qu,.int .i64 u.t,.int .i64 u.bal,.int .i64 u.abal,.int .i64 u.seen,.int .i64 u.age,.string u.pay,.slice u.A u.z.size u.c] 58)
      have HBq:=hI (qab HB.out (.cells #[.int .i64 u.id,.int .i64 u.ph,.int .i64 u.qu,.int .i64 u.t,.int .i64 u.bal,.int .i64 u.abal,.int .i64 u.seen,.int .i64 u.age,.string u.pay,.slice u.A u.z.size u.c] 58))
      rw [←hwq] at hq hownq HBq ⊢
      have d0:wq.cell? ⟨wr.heap.size,0,none⟩=some (.int .i64 u.id):=(cell_of_row wq _ 0 _ _ (0,0) hq).trans rfl
      have d1:wq.cell? ⟨wr.heap.size,1,none⟩=some (.int .i64 u.ph):=(cell_of_row wq _ 1 _ _ (0,0) hq).trans rfl
      have d7:wq.cell? ⟨wr.heap.size,7,none⟩=some (.int .i64 u.age):=(cell_of_row wq _ 7 _ _ (0,0) hq).trans rfl
      clear e0 e1 e2 e3 e4 e5 e6 e7 e8 e9 hq hwq hown HB hBs
      have hBs:=HBq.out.size
      cases ob
      ·have HD0:Hid (dueK r.e.z (k + 1)=dueK r.e.z k):=by show _=_;rw [HDK.out];rfl
       go_wp2_with (go_at_call 61;refine (HO.out _).mono ?_;rintro _ _ ⟨rfl,rfl⟩)
       go_roundw
       case rel=>exact ⟨k + 1,by go_num,by omega,by rw [HD0.out];exact hownq,HBq⟩
       case measure=>simp [intOf];omega
      ·by_cases h6:6≤u.age
       ·have HD1:Hid (dueK r.e.z (k + 1)=(dueK r.e.z k).push u.id):=by show _=_;rw [HDK.out];simp [h6]
        have h6':decide (6≤u.age)=true:=decide_eq_true h6
        clear HDK
        go_wp2_with (first
         | (go_at_call 61;refine (HO.out _).mono ?_;rintro _ _ ⟨rfl,rfl⟩)
         | (at_builtin;refine wpList_append_own _ rfl _ _ 26 rfl w.heap.size 3 j0 (.int .i64 0) 1 8 Tryz.underlying26 hj0 hy0 hy1 hy2 rfl (by decide) _ _ _ rfl (World.ownsRow.alloc hownq _) ⟨wq.heap.size,0,none⟩ 1 1 [.int .i64 u.id] rfl rfl (qjq _ _ _) (by simp [Value.oneCell']) (by unfold maxLen;omega) (by omega) (by simp;omega) ?_;intro v' w4 hown4 hgrow _;have HB4:=hI (qfm HBq.out hownq hgrow)))
        go_roundw
        case rel=>exact ⟨k + 1,by go_num,by omega,by rw [HD1.out];simpa using hown4,HB4⟩
        case measure=>simp [intOf];omega
       ·have HD0:Hid (dueK r.e.z (k + 1)=dueK r.e.z k):=by show _=_;rw [HDK.out];simp [h6]
        have h6':decide (6≤u.age)=false:=decide_eq_false h6
        clear HDK
        go_wp2_with (go_at_call 61;refine (HO.out _).mono ?_;rintro _ _ ⟨rfl,rfl⟩)
        go_roundw
        case rel=>exact ⟨k + 1,by go_num,by omega,by rw [HD0.out];exact hownq,HBq⟩
        case measure=>simp [intOf];omega
     ·have hlt':decide ((k:Int) < (r.e.z.size:Int))=false:=decide_eq_false (by omega)
      obtain rfl:k=r.e.z.size:=by omega
      go_wp2
      go_ret
      exact ⟨⟨_,rfl,by rw [HDR.out];exact hown⟩,HB.out⟩
   ·have hq':(r.ticks.tmod (8 * r.n) != 0)=true:=by simp [hq]
    rw [if_neg (fun h=>hq h.2)] at HDR
    go_wp2_with (go_at_call 15;refine (HC.out _ HX.out.b).mono ?_;rintro _ w1 ⟨rfl,hb⟩;have HX1:=hI (HX.out.next hb);clear hb x1 x2;have c0:=HX1.out.at_ 0 HQ0.out;have c6:=HX1.out.at_ 6 HQ6.out)
    go_ret
    exact ⟨⟨_,rfl,by rw [HDR.out];exact World.ownsRow_nil _ _ _ _⟩,HX1.out.b⟩
  ·rw [qhj hc] at HC
   rw [if_neg (fun h=>hc h.1)] at HDR
   clear hc
   go_wp2_with (go_at_call 15;refine (HC.out _ HX.out.b).mono ?_;rintro _ w1 ⟨rfl,hb⟩;have HX1:=hI (HX.out.next hb);clear hb x1 x2)
   go_ret
   exact ⟨⟨_,rfl,by rw [HDR.out];exact World.ownsRow_nil _ _ _ _⟩,HX1.out.b⟩
 exact hgoal _ hcs
end Go.Proofs.YtlkmagmdhopcjaaGreat
namespace Go.Proofs.YtlkmagmdhopcjaaGreat
open Go.RowKit Go.Sort Go.Lib
set_option maxRecDepth 100000
attribute [local go_sem ↓] qak qai
attribute [local go_sem] qao qaj qah qaq qbd
def ageE (e:EN):EN:=if qit e.ph then { e with age:=min (e.age + 1) 1000000 } else e
def ageK (d:Array EN):Nat→Array EN
 | 0=>d
 | k + 1=>(ageK d k).setIfInBounds k (ageE d[k]!)
theorem qch (d:Array EN) (k:Nat):(ageK d k).size=d.size:=by
 induction k with
 | zero=>rfl
 | succ k ih=>unfold ageK;rw [Array.size_setIfInBounds,ih]
theorem qgl (d:Array EN) (k:Nat) {i:Nat} (hi:i < d.size):(ageK d k)[i]! = if i < k then ageE d[i]! else d[i]!:=by
 induction k with
 | zero=>rfl
 | succ k ih =>
   unfold ageK
   by_cases h:i=k
   ·subst h
    rw [getElem!_set_same _ i _ (by rw [qch];exact hi),if_pos (by omega)]
   ·rw [getElem!_def,Array.getElem?_setIfInBounds,if_neg (Ne.symm h),←getElem!_def,ih]
    by_cases h2:i < k
    ·rw [if_pos h2,if_pos (by omega)]
    ·rw [if_neg h2,if_neg (by omega)]
def AgedR (r s:RP):Prop:=(chkR r=false∧s=r)∨(chkR r=true∧s={ r with ticks:=min (r.ticks + 1) 1000000,e:=s.e }∧s.e.z=ageK r.e.z r.e.z.size)
theorem qxe {α:Type} [Inhabited α] {en:α→List Value} {k:Nat} (ds:Array α) (i c:Nat) (x:α) (hi:i < ds.size) (hc:c < k) (hx:∀ c',c' < k→c'≠c→(en x)[c']! = (en ds[i]!)[c']!) :
 (flatK en k (ds.setIfInBounds i x)).toList=(flatK en k ds).toList.set (i * k + c) (en x)[c]!:=by
 have hs:(ds.setIfInBounds i x).size=ds.size:=by simp
 have hl:∀ d:Array α,(flatK en k d).toList.length=d.size * k:=fun d=>by rw [Array.length_toList,size_flatK]
 apply List.ext_getElem?
 intro t
 simp only [List.getElem?_set,hl]
 rcases Nat.lt_or_ge t (ds.size * k) with ht | ht
 ·have hv:∀ d:Array α,d.size=ds.size→(flatK en k d).toList[t]?=some (en d[t / k]!)[t % k]!:=fun d hd=>by
   have h1:t < (flatK en k d).size:=by rw [size_flatK,hd];exact ht
   rw [Array.getElem?_toList,Array.getElem?_eq_getElem h1,←getElem!_pos _ t h1,get_flatK _ _ _ _ (by rw [hd];exact ht)]
  rw [hv _ hs,hv _ rfl]
  have hdm:k * (t / k) + t % k=t:=Nat.div_add_mod t k
  have hmc:i * k=k * i:=Nat.mul_comm i k
  by_cases h0:t / k=i
  ·have e:(ds.setIfInBounds i x)[t / k]! = x:=by rw [h0];exact getElem!_set_same ds i x hi
   rw [e]
   rw [h0] at hdm
   by_cases h1:t % k=c
   ·rw [if_pos (by omega),if_pos (by omega),h1]
   ·rw [if_neg (by omega),hx _ (Nat.mod_lt _ (by omega)) h1,h0]
  ·have e:(ds.setIfInBounds i x)[t / k]! = ds[t / k]!:=by
    rw [getElem!_def,getElem!_def,Array.getElem?_setIfInBounds,if_neg (Ne.symm h0)]
   rw [e,if_neg]
   intro h1
   apply h0
   rw [←h1,hmc,Nat.mul_add_div (by omega),Nat.div_eq_of_lt hc,Nat.add_zero]
 ·have hik:(i + 1) * k≤ds.size * k:=Nat.mul_le_mul_right k hi
  rw [Nat.succ_mul] at hik
  rw [if_neg (by omega),List.getElem?_eq_none (by rw [hl,hs];exact ht),List.getElem?_eq_none (by rw [hl];exact ht)]
theorem own_e {W:World} {B K n cK:Nat} {ds:Array EN} (h:W.ownsRow B 58 10 (.slice (some ⟨K,0,none⟩) n cK) n (flatK encE 10 ds).toList) (hn:ds.size=n) {i:Nat} (hi:i < n) (c:Nat) (hc:c < 10):W.cell? ⟨K,i * 10 + c,none⟩=some (encE ds[i]!)[c]!:=by
 have h1:i * 10 + c < (flatK encE 10 ds).size:=by rw [size_flatK,hn];omega
 rw [h.cellAt _ (by omega),Array.getElem?_toList,Array.getElem?_eq_getElem h1,←getElem!_pos (flatK encE 10 ds) _ h1,get_flatK _ _ _ _ (by rw [hn];omega),show (i * 10 + c) / 10=i by omega,show (i * 10 + c) % 10=c by omega]
theorem own_age {W:World} {B K n cK k:Nat} {d:Array EN} (h:W.ownsRow B 58 10 (.slice (some ⟨K,0,none⟩) n cK) n (flatK encE 10 (ageK d k)).toList) (hn:d.size=n) (hk:k < n) (ho:qit d[k]!.ph=true) :
 (W.setCell ⟨K,k * 10 + 7,none⟩ (.int .i64 (min (d[k]!.age + 1) 1000000))).ownsRow B 58 10 (.slice (some ⟨K,0,none⟩) n cK) n (flatK encE 10 (ageK d (k + 1))).toList:=by
 have e:(ageK d k)[k]! = d[k]!:=by rw [qgl d k (by omega),if_neg (by omega)]
 have hx:ageE d[k]! = { d[k]! with age:=min (d[k]!.age + 1) 1000000 }:=by unfold ageE;rw [if_pos ho]
 have:=qxe (en:=encE) (k:=10) (ageK d k) k 7 (ageE d[k]!) (by rw [qch];omega) (by decide) (fun c' h1 h2=>by
  rw [e,hx]
  rcases (show c'=0∨c'=1∨c'=2∨c'=3∨c'=4∨c'=5∨c'=6∨c'=7∨c'=8∨c'=9 by omega) with rfl | rfl | rfl | rfl | rfl | rfl | rfl | rfl | rfl | rfl <;> first | rfl | exact absurd rfl h2)
 show World.ownsRow _ _ _ _ _ _ (flatK encE 10 ((ageK d k).setIfInBounds k (ageE d[k]!))).toList
 rw [this,show (encE (ageE d[k]!))[7]! = .int .i64 (min (d[k]!.age + 1) 1000000) by rw [hx];rfl]
 exact (h.stored (k * 10 + 7) _).1
theorem ageK_no {d:Array EN} {k:Nat} (hk:k < d.size) (ho:qit d[k]!.ph=false):ageK d (k + 1)=ageK d k:=by
 have e:(ageK d k)[k]! = d[k]!:=by rw [qgl d k hk,if_neg (by omega)]
 have hx:ageE d[k]! = d[k]!:=by unfold ageE;rw [if_neg (by rw [ho];decide)]
 show (ageK d k).setIfInBounds k (ageE d[k]!)=ageK d k
 rw [hx,←e]
 apply Array.ext (by simp)
 intro i h1 h2
 rw [Array.getElem_setIfInBounds (by simpa using h1)]
 split
 ·rename_i h;subst h;exact getElem!_pos (ageK d k) k h2
 ·rfl
theorem ageE_rd {w:World} {e:EN} (h:RdE0 w e):RdE0 w (ageE e):=by
 unfold ageE
 split
 ·exact ⟨h.rd,h.cz⟩
 ·exact h
end Go.Proofs.YtlkmagmdhopcjaaGreat
namespace Go.Proofs.YtlkmagmdhopcjaaGreat
open Go.RowKit Go.Sort Go.Lib
set_option maxRecDepth 100000
def OwnJ (B:Nat) (w:World) (x:RW Int):Prop:=∀ W,(∀ j,B≤j→j < w.heap.size→W.heap[j]?=w.heap[j]?)→w.heap.size≤W.heap.size→RdJ W x
theorem ownJ_of {w:World} {B base:Nat} {e:TypeId} {v:Value} {l:List Int} (h:w.ownsRow base e 1 v l.length (l.map (Value.int .i64))) (hB:B≤base):∃ x:RW Int,v=x.v∧x.z=l.toArray∧OwnJ B w x:=by
 obtain ⟨x,e1,e2,_⟩:=qdr h
 refine ⟨x,e1,e2,fun W ho hs=>?_⟩
 obtain ⟨y,f1,f2,hr⟩:=qdr (qdz h hB ho)
 have:x=y:=by
  obtain ⟨xA,xc,xz⟩:=x
  obtain ⟨yA,yc,yz⟩:=y
  have hz':xz=yz:=e2.trans f2.symm
  have e':=e1.symm.trans f1
  unfold RW.v at e'
  injection e' with q1 q2 q3
  subst hz' q1 q3
  rfl
 rw [this]
 exact hr
theorem qxf (d:Array Int) (p:Nat) (t:Int):(d.toList.map (Value.int .i64)).set p (.int .i64 (max d[p]! t))=(qfu d p t).toList.map (Value.int .i64):=by
 unfold qfu
 rw [Array.toList_setIfInBounds,List.map_set]
theorem map_at (d:Array Int) {p:Nat} (hp:p < d.size):(d.toList.map (Value.int .i64))[p]?=some (.int .i64 d[p]!):=by
 rw [List.getElem?_map,Array.getElem?_toList,Array.getElem?_eq_getElem hp,getElem!_pos d p hp];rfl
theorem mostN_9 {n:Int} (h:qic n≠0):3≤n∧n≤9:=by
 unfold qic at h
 by_cases hn:n < 3∨9 < n
 ·rw [if_pos hn] at h;exact absurd rfl h
 ·omega
set_option maxHeartbeats 4000000 in
theorem qlw (A:Option Addr) (c n p:Nat) (d:Array Int) (t:Int) (w:World) (h:RdI_R w.heap.size w A d) (hd:qas d n=0) (hp:p < n) (ht:0≤t∧t≤1000000) :
 Calls Tryz.prog 32 #[.slice A d.size c,.int .i64 n,.int .i64 ((p:Int) + 1),.int .i64 t] w fun e w'=>(∃ x:RW Int,e=.returned (.tuple #[x.v,.int .i64 0])∧x.z=qfu d p t∧OwnJ w.heap.size w' x)∧Below w.heap.size w w':=by
 have hs:d.size=n:=by have:=(qat.1 hd).2.1;omega
 have hn9:=mostN_9 (qat.1 hd).1
 have HCM:Hid (Calls Tryz.prog 79 #[.slice A d.size c,.int .i64 n] w fun e w'=>e=.returned (.int .i64 0)∧Below w.heap.size w w'):=by
  have:=qfi A c d n _ w h (by omega)
  rwa [hd] at this
 have HAM:Hid (∀ W,Calls Tryz.prog 78 #[.int .i64 ((p:Int) + 1),.int .i64 n] W fun e w'=>e=.returned (.bool true)∧W=w'):=fun W=>by
  have:=qhn ((p:Int) + 1) n W
  rwa [decide_eq_true (by omega:1≤(p:Int) + 1∧(p:Int) + 1≤(n:Int))] at this
 obtain ⟨b,off,rfl,hb,f⟩:=h (by omega)
 have HCl:Hid (∀ W,Below w.heap.size w W→Calls Tryz.prog 82 #[.slice (some ⟨b,off,none⟩) d.size c] W fun e w'=>∃ g cap,e=.returned (.slice (some ⟨g,0,none⟩) d.size cap)∧w'.ownsRow W.heap.size 3 1 (.slice (some ⟨g,0,none⟩) d.size cap) d.size (d.toList.map (Value.int .i64))∧Below W.heap.size W w'):=fun W hbW=>by
  refine (Tryz.slices_Clone_int b off d.size c d.toList W (by simp) (by omega) (fun j hj=>?_)).mono fun e w' ⟨v',he,ho,_,hbb⟩=>?_
  ·rw [(hbW.cell (p:=⟨b,off + j,none⟩) hb).trans (f j (by simpa using hj)),qgs]
  ·rw [List.take_of_length_le (by simp)] at ho
   obtain ⟨g,cap,rfl,_,_⟩:=qqh ho (by omega)
   exact ⟨g,cap,he,ho,hbb⟩
 have HX:=hI (map_at d (p:=p) (by omega))
 have HFL:=hI (qxf d p t)
 have HFZ:Hid ((qfu d p t).toList.length=d.size):=by show _=_;simp [qdo]
 obtain ⟨dp,hdp⟩:∃ x,d[p]! = x:=⟨_,rfl⟩
 rw [hdp] at HX HFL
 have e1:decide (t < 0)=false:=decide_eq_false (by omega)
 have e2:decide (1000000 < t)=false:=decide_eq_false (by omega)
 have hwr:IntKind.i64.wrap (p:Int)=(p:Int):=IntWalk.i64_in _ (by omega)
 have hpz:(p:Int) < (d.size:Int):=by omega
 have hpn:p < d.size:=by omega
 clear h hd hp ht f hdp hb hs
 go_enter Tryz.func32,Tryz.ntmps32
 go_wp2_with (first
  | (go_at_call 79;refine HCM.out.mono ?_;rintro _ w1 ⟨rfl,hb1⟩;have HB1:=hI hb1;clear hb1)
  | (go_at_call 78;refine (HAM.out _).mono ?_;rintro _ _ ⟨rfl,rfl⟩)
  | (go_at_call 82;refine (HCl.out _ HB1.out).mono ?_;rintro _ w2 ⟨g,cap,rfl,hown,hb2⟩;have HB2:=hI (qaa HB1.out hb2);have HO:=hI (qdh hown HB1.out.size);have c0:w2.cell? ⟨g,p,none⟩=some (.int .i64 dp):=(hown.cellAt p (by omega)).trans HX.out;have f0:w2.frozen? ⟨g,p,none⟩=false:=hown.frozenAt p;clear hown hb2))
 go_ret2
 have ho:=(HO.out.stored p (.int .i64 (max dp t))).1
 rw [HFL.out,←HFZ.out] at ho
 obtain ⟨x,e,hz,hr⟩:=ownJ_of ho (Nat.le_refl _)
 have hg:w.heap.size≤g:=by
  obtain ⟨_,⟨q,_⟩ | ⟨g',_,_,q,hB,_⟩⟩:=HO.out
  ·cases q
  ·injection q with q
   injection q with q
   injection q with q
   omega
 refine ⟨⟨x,?_,by rw [hz],hr⟩,HB2.out.setCell (p:=⟨g,p,none⟩) hg _⟩
 rw [←e,HFZ.out]
 rfl
end Go.Proofs.YtlkmagmdhopcjaaGreat
namespace Go.Proofs.YtlkmagmdhopcjaaGreat
open Go.RowKit Go.Sort Go.Lib
set_option maxRecDepth 100000
def SepMM (B:Nat) (w:World) (m:Array (RW Int)) (y:RW (RW Int)):Prop:=∀ W,(∀ i,i < m.size→RdJ W m[i]!)→(∀ j,B≤j→j < w.heap.size→W.heap[j]?=w.heap[j]?)→w.heap.size≤W.heap.size→RdMM W y
structure TellZ (m:Array (RW Int)) (p k:Nat) (X:Array Int) (zz:Array (RW Int)) (y:RW Int):Prop where
 sz:zz.size=k
 old:∀ i,i < k→i≠p→zz[i]! = m[i]!
 new:p < k→zz[p]! = y∧y.z=X
theorem qtc {α:Type} [Inhabited α] (zz:Array α) (x:α) {i:Nat} (hi:i < zz.size):(zz.push x)[i]! = zz[i]!:=by
 rw [getElem!_pos _ i (by simp;omega),getElem!_pos _ i hi,Array.getElem_push_lt hi]
theorem push_eq {α:Type} [Inhabited α] (zz:Array α) (x:α):(zz.push x)[zz.size]! = x:=by
 rw [getElem!_pos _ _ (by simp)];simp
theorem TellZ.oth {m:Array (RW Int)} {p k:Nat} {X:Array Int} {zz:Array (RW Int)} {y:RW Int} (h:TellZ m p k X zz y) (hk:k≠p):TellZ m p (k + 1) X (zz.push m[k]!) y:=by
 refine ⟨by simp [h.sz],fun i hi hp=>?_,fun hp=>?_⟩
 ·by_cases e:i=k
  ·subst e;rw [←h.sz,push_eq]
  ·rw [qtc _ _ (by rw [h.sz];omega)];exact h.old i (by omega) hp
 ·rw [qtc _ _ (by rw [h.sz];omega)];exact h.new (by omega)
theorem TellZ.me {m:Array (RW Int)} {p:Nat} {X:Array Int} {zz:Array (RW Int)} {y y':RW Int} (h:TellZ m p p X zz y) (hy:y'.z=X):TellZ m p (p + 1) X (zz.push y') y':=by
 refine ⟨by simp [h.sz],fun i hi hp=>?_,fun _=>⟨?_,hy⟩⟩
 ·rw [qtc _ _ (by rw [h.sz];omega)];exact h.old i (by omega) hp
 ·have:=push_eq zz y'
  rwa [h.sz] at this
end Go.Proofs.YtlkmagmdhopcjaaGreat
