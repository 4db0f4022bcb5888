/- Texts that the law leans on. -/
import Derived.Test.YtdcfffhoajmafaaGreatQTbF
import Derived.Test.YtdcfffhoajmafaaGreatQTbH
import Derived.Test.YtdcfffhoajmafaaGreatQOpenN
import Derived.Test.YtdcfffhoajmafaaGreatQStV
import Derived.Test.YtdcfffhoajmafaaGreatQDocQ
import Derived.Test.YtdcfffhoajmafaaGreatQStZ
set_option maxRecDepth 100000
namespace Go.Proofs.YtdcfffhoajmafaaGreat
open Go.ChangeShapes Go.WideShapes Go.ChangeAt Go.RowKit Go.Deep Go.Sort Go.Proofs.Tryz
theorem arrmem {m:Array EN} {x:EN} (h:x ∈ m.toList):∃ j,j < m.size/\m[j]! = x:=by
 obtain ⟨j,b,e⟩:=List.getElem_of_mem h;have a:j < m.size:=by simpa using b
 exact ⟨j,a,by rw [vae m j a,<-e];simp⟩
theorem chkT_pw {d:Array EN} (h:chkT d=true):d.toList.Pairwise (fun x y=>x.id < y.id):=by
 have g:=qvy h;rw [vbp];intro i j e f c;have b:i < d.size:=by simpa using e
 have a:j < d.size:=by simpa using f
 have:=g i j c a
 rw [vae d i b,vae d j a] at this;simpa using this
theorem chkT_mk {d:Array EN} (b:d.size<=40) (c:∀ x ∈ d.toList,qgh x=true) (e:d.toList.Pairwise (fun x y=>x.id < y.id)):chkT d=true:=by
 refine qeo.2 ⟨b,fun i a=>?_⟩;unfold atT;rw [vav,vap];refine ⟨c _ (by rw [vae d i a];simp),fun f=>?_⟩
 have:=vbp.1 e (i - 1) i jso (by simpa using a) jo
 rw [vae d i a,vae d (i - 1) jo];simpa using this
theorem qye {d:Array EN} (h:chkT d=true):∀ x ∈ d.toList,qgh x=true:=by
 intro x b;obtain ⟨j,a,rfl⟩:=arrmem b
 have:=(qeo.1 h).2 j a
 unfold atT at this;rw [vav] at this;exact this.1
end Go.Proofs.YtdcfffhoajmafaaGreat
namespace Go.Proofs.YtdcfffhoajmafaaGreat
open Go.RowKit Go.Sort Go.Lib Go.Proofs.Tryz
theorem keep_ok {z:Array EN} {n:Int} (h:chkT z=true):chkT (qdy n z)=true:=by
 refine chkT_mk ?_ ?_ ?_
 .have:=qki n z;have:=(qeo.1 h).1;omega
 .exact fun x a=>qye h x (qhv x a)
 unfold qdy;exact (chkT_pw h).filter _
end Go.Proofs.YtdcfffhoajmafaaGreat
set_option maxRecDepth 100000
set_option maxHeartbeats 8000000
namespace Go.Proofs.YtdcfffhoajmafaaGreat
open Go.RowKit Go.Sort Go.Lib Go.Proofs.Tryz
def qep (r:RP) (m:PM):Bool:=chkR r && decide (chkM m=0) && decide (m.fr<=r.n/\m.fr≠r.self/\qat m.id<=r.n/\m.q.toNat >>> r.n.toNat=0)
def qec (d:Array Int) (p:Nat) (t:Int):Array Int:=d.setIfInBounds p (max d[p]! t)
theorem qcu (d:Array Int) (p:Nat) (t:Int):(qec d p t).size=d.size:=by simp [qec]
theorem qri (d:Array Int) (p:Nat) (t:Int) {i:Nat} (hi:i < d.size):(qec d p t)[i]! = if i=p then max d[i]! t else d[i]!:=by
 unfold qec;by_cases h:i=p
 .subst h
  rw [vam rfl,getElem!_set_same d i _ hi]
 rw [vao h];rw [vbx,vbb,vao (Ne.symm h)];exact (vbx d i).symm
theorem qmd {d:Array Int} {n t:Int} {p:Nat} (h:qas d n=0) (g:0<=t/\t<=1000000) (_hp:p < d.size):qas (qec d p t) n=0:=by
 obtain ⟨a,b,c⟩:=qay.1 h;refine qay.2 ⟨a,by rw [qcu];exact b,fun x f=>?_⟩;obtain ⟨i,e,rfl⟩:=qkf f;rw [qcu] at e;rw [qri d p t e]
 have:=c d[i]! (qhp d e)
 split <;> omega
def okPr (r:RP) (m:PM):Bool:=decide (m.k=10) && qep r m && addB r.k.z[m.fr.toNat - 1]!.kn m.lo m.hi m.ats && decide (qas m.mks r.n=0)
structure PromR (r:RP) (m:PM) (s:RP):Prop where
 eq:s={ r with k:=s.k,m:=s.m,fr:=s.fr }
 ks:s.k.z.size=r.k.z.size
 kk:∀ i,i < r.k.z.size->if (i:Int) + 1=m.fr then AddR r.k.z[i]!.kn m.lo m.hi m.ats s.k.z[i]!.kn/\s.k.z[i]!.r.z.size<=r.k.z[i]!.r.z.size + r.k.z[i]!.a.z.size + m.ats.size + 1 else s.k.z[i]!.kn=r.k.z[i]!.kn
 ms:s.m.z.size=r.m.z.size
 mm:∀ i,i < r.m.z.size->s.m.z[i]!.z=if (i:Int) + 1=m.fr then qcd r.m.z[i]!.z m.mks else r.m.z[i]!.z
 fr:s.fr.z=qec r.fr.z (m.fr.toNat - 1) m.dn
def DropR (r s:RP):Prop:=s={ r with e:=s.e }/\s.e.z=qdy (qcl r.fr.z) r.e.z
def OnPrR (r:RP) (m:PM) (s:RP):Prop:=(okPr r m=false/\s=r)\/(okPr r m=true/\∃ a b,PromR r m a/\RefR a b/\DropR b s)
def FrontR (r:RP) (t:Int) (s:RP):Prop:=(¬ (chkR r=true/\0<=t/\t<=1000000)/\s=r)\/((chkR r=true/\0<=t/\t<=1000000)/\∃ a,a={ r with fr:=a.fr }/\a.fr.z=qec r.fr.z (r.self.toNat - 1) t/\DropR a s)
theorem PromR.uniq {r a b:RP} {m:PM} (h:PromR r m a) (g:PromR r m b):EqR a b:=by
 have q:=h.eq;have H:=g.eq;have v:∀ {a b:RP} {k m u},a={ b with k:=k,m:=m,fr:=u }->a.n=b.n/\a.f=b.f/\a.self=b.self/\a.clock=b.clock/\a.seq=b.seq/\a.ticks=b.ticks/\a.e=b.e/\a.floor=b.floor/\a.d=b.d/\a.lt=b.lt/\a.lid=b.lid/\a.count=b.count/\a.o=b.o:=by
  rintro a b k m u rfl;exact ⟨rfl,rfl,rfl,rfl,rfl,rfl,rfl,rfl,rfl,rfl,rfl,rfl,rfl⟩
 obtain ⟨y,z,A,B,C,D,E,F,G,f,j,l,n⟩:=v q;obtain ⟨I,J,K,L,M,N,O,P,Q,o,p,s,t⟩:=v H;refine ⟨⟨by rw [y,I],by rw [z,J],by rw [A,K],by rw [B,L],by rw [C,M],by rw [F,P],by rw [D,N],by rw [f,o],by rw [j,p],by rw [l,s]⟩,?_,by rw [n,t],⟨by rw [h.ks,g.ks],fun i c=>?_⟩,⟨by rw [h.ms,g.ms],fun i c=>?_⟩,by rw [h.fr,g.fr],?_⟩
 .rw [E,O];exact ⟨rfl,fun _ _=>qkj _⟩
 .rw [h.ks] at c
  have d:=h.kk i c;have e:=g.kk i c;by_cases x:(i:Int) + 1=m.fr
  .rw [vam x] at d e
   exact d.1.uniq e.1
  rw [vao x] at d e;rw [d,e]
 .rw [h.ms] at c
  rw [h.mm i c,g.mm i c]
 rw [G,Q];exact ⟨rfl,fun _ _=>rfl⟩
theorem qyu {x y:EN} (h:sameP x y) (n:Int):qgw n x=qgw n y:=by
 unfold qgw;rw [h.2.1,h.2.2.2.1]
theorem qua {n:Int}:∀ {l k:List EN},l.length=k.length->(∀ i,i < l.length->sameP l[i]! k[i]!)->((l.filter fun x=>!qgw n x).length=(k.filter fun x=>!qgw n x).length/\∀ i,i < (l.filter fun x=>!qgw n x).length->sameP (l.filter fun x=>!qgw n x)[i]! (k.filter fun x=>!qgw n x)[i]!):=by
 intro l
 induction l with
 | nil =>
   intro k d _
   have:k=[]:=vcg d.symm
   subst this;exact ⟨rfl,fun i a=>absurd a js⟩
 | cons x l ih =>
   intro k d h;cases k with
   | nil=>simp at d
   | cons y k =>
     have b:sameP x y:=h 0 js;have j:l.length=k.length:=by simpa using d
     have m:∀ i,i < l.length->sameP l[i]! k[i]!:=fun i a=>by
      have:=h (i + 1) (by simpa using a)
      simpa using this
     obtain ⟨e,f⟩:=ih j m;have g:=qyu b n;cases c:qgw n x
     .rw [List.filter_cons_of_pos (by rw [c];rfl),List.filter_cons_of_pos (by rw [<-g,c];rfl)]
      refine ⟨by simp [e],fun i a=>?_⟩;cases i with
      | zero=>simpa using b
      | succ i =>
        have:=f i (by simpa using a)
        simpa using this
     rw [List.filter_cons_of_neg (by rw [c];decide),List.filter_cons_of_neg (by rw [<-g,c];decide)];exact ⟨e,f⟩
theorem qyv {a b:Array EN} (h:a.size=b.size/\∀ i,i < a.size->sameP a[i]! b[i]!) (n:Int):(qdy n a).size=(qdy n b).size/\∀ i,i < (qdy n a).size->sameP (qdy n a)[i]! (qdy n b)[i]!:=by
 have c:∀ (d:Array EN) (i:Nat),d.toList[i]! = d[i]!:=fun d i=>by
  rw [vbx,vbx];simp
 obtain ⟨f,g⟩:=qua (n:=n) (l:=a.toList) (k:=b.toList) (by simpa using h.1) (fun i e=>by rw [c,c];exact h.2 i (by simpa using e));unfold qdy;refine ⟨by simpa using f,fun i e=>?_⟩
 have:=g i (by simpa using e)
 rw [<-c,<-c];exact this
theorem DropR.uniq {a b s t:RP} (c:EqR a b) (h:DropR a s) (g:DropR b t):EqR s t:=by
 obtain ⟨q,f⟩:=h;obtain ⟨i,e⟩:=g;have d:=qyv c.e (qcl a.fr.z);rw [<-f,c.fr,<-e] at d;rw [q,i];exact ⟨c.h,d,c.o,c.k,c.m,c.fr,c.d⟩
theorem OnPrR.uniq {r s t:RP} {m:PM} (h:OnPrR r m s) (g:OnPrR r m t):EqR s t:=by
 rcases h with ⟨f,rfl⟩ | ⟨f,a,b,i,n,o⟩
 .rcases g with ⟨_,rfl⟩ | ⟨e,_⟩
  .exact EqR.refl _
  rw [f] at e;cases e
 rcases g with ⟨e,_⟩ | ⟨e,c,d,j,k,l⟩
 .rw [f] at e;cases e
 have p:chkR r=true:=by
  unfold okPr qep at f;simp only [vav] at f;exact f.1.1.2.1.1
 have q:(a.d.z.size:Int)=a.n:=by
  rw [i.eq];exact (chkR_d p:(r.d.z.size:Int)=r.n)
 exact o.uniq (RefR.uniq (i.uniq j) q n k) l
theorem FrontR.uniq {r s t:RP} {n:Int} (h:FrontR r n s) (g:FrontR r n t):EqR s t:=by
 rcases h with ⟨d,rfl⟩ | ⟨d,a,k,l,m⟩
 .rcases g with ⟨_,rfl⟩ | ⟨c,_⟩
  .exact EqR.refl _
  exact absurd c d
 rcases g with ⟨c,_⟩ | ⟨c,b,f,i,j⟩
 .exact absurd d c
 refine DropR.uniq ?_ m j;have e:=EqR.refl r;rw [k,f];exact ⟨e.h,e.e,e.o,e.k,e.m,by rw [l,i],e.d⟩
theorem chk_km {r s:RP} (hc:chkR r=true) (he:s={ r with k:=s.k,m:=s.m,fr:=s.fr }) (hk:s.k.z.size=r.k.z.size) (hkk:∀ i,i < r.k.z.size->chkB s.k.z[i]!.kn=true) (hm:qey s.m.z r.n=true) (hf:qas s.fr.z r.n=0):chkR s=true:=by
 obtain ⟨⟨h,n,o,p,q,t,u,v,x,a,b,c,j,l,d⟩,f,y⟩:=(qbo r).1 hc;rw [he];refine (qbo _).2 ⟨⟨h,n,o,p,q,t,u,v,x,a,b,?_,?_,hf,d⟩,⟨f.1,fun i g=>⟨vam (hkk i ?_),(f.2 i ?_).2⟩⟩,y⟩
 .show (s.k.z.size:Int)=r.n
  rw [hk];exact c
 .exact vam hm
 .have e:i < s.k.z.size:=g
  omega
 have e:i < s.k.z.size:=g;omega
theorem chk_e {r:RP} (u:chkR r=true) (y:RW EN) (A:chkT y.z=true) (v:∀ x ∈ y.z.toList,qat x.id<=r.n):chkR { r with e:=y }=true:=by
 obtain ⟨⟨g,j,k,l,m,n,o,p,q,a,h,b,c,d,f⟩,s,t⟩:=(qbo r).1 u;exact (qbo _).2 ⟨⟨g,j,k,l,m,n,o,p,q,a,vam A,b,c,d,f⟩,⟨fun i z=>v _ (qhp _ z),s.2⟩,t⟩
theorem qwh {r:RP} (h:chkR r=true):chkT r.e.z=true:=by
 have a:tabE r.e.z=0:=((qbo r).1 h).1.2.2.2.2.2.2.2.2.2.2.1;unfold tabE at a;cases b:chkT r.e.z
 .rw [b] at a;cases a
 rfl
theorem qwi {r:RP} (h:chkR r=true):∀ x ∈ r.e.z.toList,qat x.id<=r.n:=by
 intro x b;obtain ⟨i,a,rfl⟩:=qkf b;exact ((qbo r).1 h).2.1.1 i a
theorem qjb {r:RP} (h:chkR r=true):qas r.fr.z r.n=0:=((qbo r).1 h).1.2.2.2.2.2.2.2.2.2.2.2.2.2.1
theorem DropR.chk {r s:RP} (h:DropR r s) (a:chkR r=true):chkR s=true:=by
 obtain ⟨q,b⟩:=h;rw [q];refine chk_e a _ (by rw [b];exact keep_ok (qwh a)) fun x c=>?_
 rw [b] at c;exact qwi a x (qhv x c)
theorem qwj {n:Int} {d:Array EN} {i:Nat} (hi:i < (qdy n d).size):∃ j,j < d.size/\(qdy n d)[i]! = d[j]!:=by
 obtain ⟨j,a,e⟩:=qkf (qhv _ (qhp _ hi));exact ⟨j,a,e.symm⟩
theorem DropR.few {r s:RP} (h:DropR r s) (a:FewC r):FewC s:=by
 obtain ⟨q,c⟩:=h;rw [q];refine ⟨?_,fun i d=>?_,a.o,a.k,a.m,a.mm,a.fr,a.d,a.dd,a.kk⟩
 .show s.e.z.size<=1000
  rw [c]
  have:=qki (qcl r.fr.z) r.e.z
  have:=a.es
  omega
 have b:i < s.e.z.size:=d;show s.e.z[i]!.z.size<=1000/\s.e.z[i]!.pay.size<=1000;rw [c] at b |-
 obtain ⟨j,f,e⟩:=qwj b;rw [e];exact a.ee j f
theorem chkM_10 {m:PM} (h:chkM m=0) (d:m.k=10):proB m=true/\1<=m.fr/\m.fr<=9:=by
 unfold chkM at h;rw [vao jo] at h;cases c:(decide (1<=m.fr/\m.fr<=9) && qcz (qhr m) m && mayB m)
 .rw [c] at h;cases h
 simp only [vav,vap] at c;obtain ⟨⟨a,_⟩,b⟩:=c;unfold mayB at b;rw [vam d] at b;exact ⟨b,a⟩
structure OkPr (r:RP) (m:PM) (p:Nat):Prop where
 c:chkR r=true
 fr:m.fr=(p:Int) + 1
 pk:p < r.k.z.size
 ns:m.fr≠r.self
 add:AddA r.k.z[p]!.kn m.lo m.hi m.ats
 ats:m.ats.size<=200
 mks:qas m.mks r.n=0
 dn:0<=m.dn/\m.dn<=1000000
theorem okPr_iff {r:RP} {m:PM} (h:okPr r m=true):∃ p,OkPr r m p:=by
 unfold okPr qep at h;simp only [vav,vap] at h;obtain ⟨⟨⟨f,⟨d,g⟩,n,e,_,_⟩,c⟩,j⟩:=h;obtain ⟨a,k,l⟩:=chkM_10 g f;unfold proB at a;simp only [vav,vap] at a;obtain ⟨p,b⟩:∃ p:Nat,m.fr=(p:Int) + 1:=⟨m.fr.toNat - 1,by omega⟩
 have i:m.fr.toNat - 1=p:=by omega
 rw [i] at c;exact ⟨p,d,b,by have:=qgf d;omega,e,qkk.1 c,a.1.2.2,j,by omega⟩
theorem FewP.kk' {r:RP} (h:FewP r) {i:Nat} (hi:i < r.k.z.size):r.k.z[i]!.r.z.size<=100/\r.k.z[i]!.a.z.size<=100:=qpx.1 (h.kk i hi)
theorem PromR.kn {r s:RP} {m:PM} {p:Nat} (h:PromR r m s) (c:OkPr r m p) (n:FewP r):∀ i,i < r.k.z.size->chkB s.k.z[i]!.kn=true/\s.k.z[i]!.r.z.size<=500/\s.k.z[i]!.a.z.size<=300/\r.k.z[i]!.base<=s.k.z[i]!.base/\((i:Int) + 1=r.self->s.k.z[i]!.kn=r.k.z[i]!.kn):=by
 intro i e;have a:=h.kk i e;have o:=n.kk' e;have q:=c.ats;by_cases b:(i:Int) + 1=m.fr
 .rw [vam b] at a
  have f:i=p:=by have:=c.fr;omega
  rw [<-f] at c;have d:=qqb c.add a.1 (by show r.k.z[i]!.a.z.size + m.ats.size<=400;omega);have t:s.k.z[i]!.a.z.size<=r.k.z[i]!.a.z.size + m.ats.size:=d.2.2.1;exact ⟨qco.2 d.1,by omega,by omega,d.2.1,fun l=>absurd (b.symm.trans l) c.ns⟩
 rw [vao b] at a;have g:s.k.z[i]!.r.z=r.k.z[i]!.r.z:=congrArg KN.rs a;have j:s.k.z[i]!.a.z=r.k.z[i]!.a.z:=congrArg KN.ats a;have k:s.k.z[i]!.base=r.k.z[i]!.base:=congrArg KN.base a;rw [a,g,j,k];exact ⟨qie c.c i e,by omega,by omega,vdo _,fun _=>rfl⟩
theorem PromR.chk {r s:RP} {m:PM} {p:Nat} (h:PromR r m s) (a:OkPr r m p) (e:FewP r):chkR s=true:=by
 have c:=qci.1 (qex a.c);refine chk_km a.c h.eq h.ks (fun i b=>(h.kn a e i b).1) ?_ ?_
 .refine qci.2 ⟨c.1,by rw [h.ms];exact c.2.1,fun i b=>?_⟩
  rw [h.ms] at b;rw [h.mm i b];split
  .exact qfn (c.2.2 i b) a.mks
  exact c.2.2 i b
 rw [h.fr];have d:=qjb a.c;have f:=(qay.1 d).2.1;have g:=a.pk;have j:=qgf a.c;have k:=a.fr;exact qmd d a.dn jo
theorem PromR.few {r s:RP} {m:PM} {p:Nat} (h:PromR r m s) (f:OkPr r m p) (d:FewP r):FewM s:=by
 have e:=h.kn f d;have b:=d.c;have n:=qci.1 (qex f.c);refine ⟨⟨?_,?_,?_,?_,?_,?_,?_,?_,?_,?_⟩,?_,?_,?_⟩
 .rw [h.eq];exact b.es
 .rw [h.eq];exact b.ee
 .rw [h.eq];exact b.o
 .rw [h.ks];exact b.k
 .rw [h.ms];exact b.m
 .intro i a
  rw [h.ms] at a;rw [h.mm i a];have c:=b.mm i a;have o:=(qay.1 (n.2.2 i a)).2.1;have q:=(qay.1 f.mks).2.1;split
  .rw [qcw];omega
  exact c
 .rw [h.fr,qcu];exact b.fr
 .rw [h.eq];exact b.d
 .rw [h.eq];exact b.dd
 .intro i a
  rw [h.ks] at a
  have:=e i a
  omega
 .intro i a
  rw [h.ks] at a
  have:=e i a
  omega
 .intro i a g
  rw [h.ks] at a;have l:s.self=r.self:=by rw [h.eq]
  rw [l] at g;have c:=(e i a).2.2.2.2 g;have j:s.k.z[i]!.r.z=r.k.z[i]!.r.z:=congrArg KN.rs c;have k:s.k.z[i]!.a.z=r.k.z[i]!.a.z:=congrArg KN.ats c;rw [j,k]
  have:=d.kk' a
  omega
 rw [h.eq]
 have:=d.o
 show r.o.z.size<=150;omega
theorem OnPrR.good {r s:RP} {m:PM} (h:OnPrR r m s) (c:FewP r):FewC s/\(chkR r=true->chkR s=true):=by
 rcases h with ⟨f,rfl⟩ | ⟨f,a,b,g,i,j⟩
 .exact ⟨c.c,id⟩
 obtain ⟨p,k⟩:=okPr_iff f;have d:=g.chk k c;have e:=g.few k c;exact ⟨j.few (i.few d e),fun _=>j.chk (i.chk d e)⟩
theorem FrontR.good {r s:RP} {t:Int} (h:FrontR r t s) (b:FewC r):FewC s/\(chkR r=true->chkR s=true):=by
 rcases h with ⟨f,rfl⟩ | ⟨⟨c,f,l⟩,a,e,g,i⟩
 .exact ⟨b,id⟩
 have n:=(qew c).2;have d:=qjb c;have m:=(qay.1 d).2.1;have j:chkR a=true:=by
  rw [e];refine chk_km (r:=r) c rfl rfl (qie (r:=r) c) (qex (r:=r) c) ?_;show qas a.fr.z r.n=0;rw [g];exact qmd d ⟨f,l⟩ jo
 have k:FewC a:=by
  rw [e];refine ⟨b.es,b.ee,b.o,b.k,b.m,b.mm,?_,b.d,b.dd,b.kk⟩;show a.fr.z.size<=1000;rw [g,qcu];exact b.fr
 exact ⟨i.few k,fun _=>i.chk j⟩
section
def qpo (t:TypeId) (v:Value):Sem Value:=Instr.loadAt t v
theorem qbe (ρ:Operand->Value) (dst:Option Tmp) (x:Operand) (a:TypeId) (pos:String) (after:Array Edge) (guard:Option (Nat×Bool)) :
 execOp ρ { dst,op:=.load 37 x,type:=a,pos,after,guard }=(do pure (.value (<- qpo 37 (ρ x)))):=rfl
theorem qbp (W:World) (g:Nat) (h:qdd W g 14=true):(qpo 37 (.pointer (some ⟨g,0,none⟩))).run prog W=.ok (.agg (rowAt W g)) W:=by
 obtain ⟨t,a,b⟩:=qjk h;simp only [qpo,Instr.loadAt,Instr.sureAddr,Sem.run_bind,Sem.run_pure,Result.andThen];exact vek W g t 37 _ (0,0) _ a underlying37 rfl (by rw [b];kernel_rfl)
attribute [local go_sem ↓] qap qan qbe
attribute [local go_sem] qaw qao qal qbb qbv qbp
theorem qeq {ρ:Operand->Value} {dst:Option Tmp} {x:Operand} {c:TypeId} {pos:String} {after:Array Edge} {guard:Option (Nat×Bool)} {W:World} {g:Nat} {cs:Array Value} (b:ρ x=.pointer (some ⟨g,0,none⟩)) (h:qdd W g 18=true) (a:rowAt W g=cs) :
 (execOp ρ { dst:=dst,op:=.load 35 x,type:=c,pos:=pos,after:=after,guard:=guard }).run prog W=.ok (.value (.agg cs)) W:=by
 rw [qap,b];simp only [Sem.run_bind,Sem.run_pure,qaw W g h,Result.andThen,a]
theorem load_msg {ρ:Operand->Value} {dst:Option Tmp} {x:Operand} {c:TypeId} {pos:String} {after:Array Edge} {guard:Option (Nat×Bool)} {W:World} {g:Nat} {cs:Array Value} (b:ρ x=.pointer (some ⟨g,0,none⟩)) (h:qdd W g 14=true) (a:rowAt W g=cs) :
 (execOp ρ { dst:=dst,op:=.load 37 x,type:=c,pos:=pos,after:=after,guard:=guard }).run prog W=.ok (.value (.agg cs)) W:=by
 rw [qbe,b];simp only [Sem.run_bind,Sem.run_pure,qbp W g h,Result.andThen,a]
theorem chain_if {w:World} {a:List ByteArray} {c:Int} {v:Value} (h:Chain w a c v):∃ t u,v=.iface t u:=by
 cases a with
 | nil=>exact ⟨_,_,h⟩
 | cons op a=>obtain ⟨b,o,u,rfl,_⟩:=h;exact ⟨_,_,rfl⟩
theorem tkN {P:Program} {ops:Array Oper} {Q:Exit->Act->World->Prop} {md:Region.Mode} {S:World->Prop} {oi:Oper} {fuel:Nat} {listed:Array Bool} {a:Act} {w:World} (t i:Nat) (hi:ops[i]?=some oi) (hd:oi.dst=some t) (hS:S w)
 (h:qdo P md ops Q S fuel (listed.setIfInBounds i true) (a.put (some t) undef) w) (hQ:∀ c a w,Q (.panic c) (a.put (some t) undef) w->Q (.panic c) a w:=by exact fun _ _ _ h=>h)
 (hs:Region.noSelect ops=true:=by kernel_rfl) (hf:Region.free md ops listed i=true:=by kernel_rfl) (hr:(Region.ready md ops listed).contains i=true:=by kernel_rfl) (hw:Region.wanted oi (yielded ops a.tmps)=false:=by rfl):qdo P md ops Q S (fuel + 1) listed a w :=
 qht (some t) hi hd hs hf hr hQ (Or.inr ⟨hw,rfl⟩) hS h
theorem qpp {m:PM} (h:chkM m=0) (c:m.k=10):m.id=0/\m.q=0:=by
 unfold chkM at h;rw [vao jo] at h;cases b:(decide (1<=m.fr/\m.fr<=9) && qcz (qhr m) m && mayB m)
 .rw [b] at h;cases h
 simp only [vav,vap] at b;obtain ⟨⟨_,a⟩,_⟩:=b;unfold qcz qhr at a;simp only [vap,c] at a;simp at a;exact ⟨by have:=a.1;omega,by omega⟩
theorem hears10 {r:RP} {m:PM} (g:m.k=10):qep r m=(chkR r && decide (chkM m=0) && decide (m.fr<=r.n) && !decide (m.fr=r.self)):=by
 unfold qep;cases f:chkR r
 .rfl
 by_cases a:chkM m=0
 .obtain ⟨d,e⟩:=qpp a g
  have h:=(qew f).1;have b:qat m.id<=r.n:=by rw [d];show (0:Int)<=r.n;omega
  have c:m.q.toNat >>> r.n.toNat=0:=by rw [e];simp
  rw [vbd];simp only [vav,vap,vdv,vat,a,vcn];simp [b,c]
 rw [vab a];rfl
structure BoxRM (w:World) (cs cm:Array Value) (W:World):Prop where
 r:BoxG w w.heap.size cs 35 W
 m:BoxG w (w.heap.size + 1) cm 37 W
theorem BoxRM.init (w:World) (cs a:Array Value):BoxRM w cs a ((w.alloc (.cells cs 35)).alloc (.cells a 37)):=⟨BoxG.fst w cs a _ _,BoxG.snd w cs a _ _⟩
theorem BoxRM.next {w W W':World} {cs a:Array Value} (h:BoxRM w cs a W) (b:Below W.heap.size W W'):BoxRM w cs a W':=⟨h.r.next b,h.m.next b⟩
theorem run_loadB {W:World} {g:Nat} {cs:Array Value} {T:TypeId} (h:W.heap[g]?=some (.cells cs T (0,0))) (a:cs.size=10):(loadVar 207 ⟨g,0,none⟩).run prog W=.ok (.agg cs) W :=
 vek W g T 207 cs (0,0) _ h underlying207 rfl (by rw [a];kernel_rfl)
theorem qub {c:Func} {t:Tmp} (e:c.results=#[.cell t 207]) {b:Array Value} {W:World} {g:Nat} {cs:Array Value} {T:TypeId} (f:b.getD t undef=.pointer (some ⟨g,0,none⟩)) (h:W.heap[g]?=some (.cells cs T (0,0))) (d:cs.size=10):(results c b).run prog W=.ok (.agg cs) W:=by
 have a:b[t]?.getD undef=.pointer (some ⟨g,0,none⟩):=by rw [<-vde];exact f
 simp [results,e,a,asAddr,run_loadB h d]
theorem BoxG.same {w W:World} {g:Nat} {cs:Array Value} {t:TypeId} (h:BoxG w g cs t W) (a:w.heap.size<=g) {k:Nat} {v:Value} (b:cs.setIfInBounds k v=cs):BoxG w g cs t (W.setCell ⟨g,k,none⟩ v):=by
 have:=h.set a k v
 rwa [b] at this
theorem qyw {w W:World} {g:Nat} {z:Array Value} {t:TypeId} (h:BoxG w g z t W) (a:w.heap.size<=g) (b:∀ k,k < 10->z.setIfInBounds k (.bool false)=z/\z[k]?=some (.bool false)) :
 BoxG w g z t ((((((((((W.setCell ⟨g,0,none⟩ (.bool false)).setCell ⟨g,1,none⟩ (.bool false)).setCell ⟨g,2,none⟩ (.bool false)).setCell ⟨g,3,none⟩ (.bool false)).setCell ⟨g,4,none⟩ (.bool false)).setCell ⟨g,5,none⟩ (.bool false)).setCell ⟨g,6,none⟩ (.bool false)).setCell ⟨g,7,none⟩ (.bool false)).setCell ⟨g,8,none⟩ (.bool false)).setCell ⟨g,9,none⟩ (.bool false)) :=
 (((((((((h.same a (b 0 jd).1).same a (b 1 jd).1).same a (b 2 jd).1).same a (b 3 jd).1).same a (b 4 jd).1).same a (b 5 jd).1).same a (b 6 jd).1).same a (b 7 jd).1).same a (b 8 jd).1).same a (b 9 jd).1
theorem qyx (w:World):Calls prog 181 #[.int .i64 0] w fun e q=>e=.returned (.agg #[.bool false,.bool false,.bool false,.bool false,.bool false,.bool false,.bool false,.bool false,.bool false,.bool false])/\Below w.heap.size w q:=by
 obtain ⟨z,f⟩:∃ z:Array Value,z=#[.bool false,.bool false,.bool false,.bool false,.bool false,.bool false,.bool false,.bool false,.bool false,.bool false]:=⟨_,rfl⟩
 have j:=hI (BoxG.fst w z z 207 207);have l:=hI (BoxG.snd w z z 207 207);have c:Hid (∀ k,k < 10->z.setIfInBounds k (.bool false)=z/\z[k]?=some (.bool false)):=by
  show ∀ k,_;intro k hk;rw [f];rcases (show k=0\/k=1\/k=2\/k=3\/k=4\/k=5\/k=6\/k=7\/k=8\/k=9 by omega) with rfl | rfl | rfl | rfl | rfl | rfl | rfl | rfl | rfl | rfl <;> exact ⟨rfl,rfl⟩
 have g:Hid (z=#[.bool false,.bool false,.bool false,.bool false,.bool false,.bool false,.bool false,.bool false,.bool false,.bool false]):=hI f;rw [<-f];rw [f] at j l;clear f;go_in;go_wp2
 go_loopw [0,4] (fun s i wr=>∃ k:Nat,s=.int .i64 0/\i=.int .i64 k/\1<=k/\k<=10/\Hid (BoxG w w.heap.size z 207 wr)/\Hid (BoxG w (w.heap.size + 1) z 207 wr)) (fun _ i _=>10 - (intOf i).toNat)
 case atStart=>exact ⟨1,rfl,rfl,by omega,by omega,by rw [g.out];exact j,by rw [g.out];exact l⟩
 case round =>
  obtain ⟨k,rfl,rfl,h1,o,a,b⟩:=hrel;have p:=b.out.lt;by_cases d:k < 10
  .have kz:(k:Int) < 10:=by omega
   have P:=b.out.at_ k (c.out k d).2;have fk:=b.out.froz k;go_wp2;go_roundw
   case rel =>
    have m:=b.out.set jo k (.bool false);rw [(c.out k d).1] at m;exact ⟨k + 1,rfl,by go_num,by omega,by omega,a.out.far (g2:=w.heap.size + 1) jo jo k _,m⟩
   case measure=>simp [intOf];omega
  have n:decide ((k:Int) < 10)=false:=vab jo;obtain rfl:k=10:=by omega
  have r:=a.out.at_ 0 (c.out 0 jo).2;have F:=b.out.at_ 0 (c.out 0 jo).2;have Q:=a.out.froz 0;have t:=a.out.at_ 1 (c.out 1 jo).2;have G:=b.out.at_ 1 (c.out 1 jo).2;have R:=a.out.froz 1;have u:=a.out.at_ 2 (c.out 2 jo).2;have H:=b.out.at_ 2 (c.out 2 jo).2;have S:=a.out.froz 2;have x:=a.out.at_ 3 (c.out 3 jo).2;have I:=b.out.at_ 3 (c.out 3 jo).2;have T:=a.out.froz 3;have y:=a.out.at_ 4 (c.out 4 jo).2;have J:=b.out.at_ 4 (c.out 4 jo).2;have U:=a.out.froz 4;have A:=a.out.at_ 5 (c.out 5 jo).2;have K:=b.out.at_ 5 (c.out 5 jo).2;have V:=a.out.froz 5;have B:=a.out.at_ 6 (c.out 6 jo).2;have L:=b.out.at_ 6 (c.out 6 jo).2;have X:=a.out.froz 6;have C:=a.out.at_ 7 (c.out 7 jo).2;have M:=b.out.at_ 7 (c.out 7 jo).2;have Y:=a.out.froz 7;have D:=a.out.at_ 8 (c.out 8 jo).2;have N:=b.out.at_ 8 (c.out 8 jo).2;have Z:=a.out.froz 8;have E:=a.out.at_ 9 (c.out 9 jo).2;have O:=b.out.at_ 9 (c.out 9 jo).2;have f9:=a.out.froz 9;have h:=hI (qyw a.out (vaa _) c.out);go_wp2;refine vau (v:=.agg z) ?_ rfl ⟨rfl,?_⟩
  .exact qub rfl rfl h.out.row (by rw [g.out];rfl)
  exact h.out.b
theorem qyy (id:Int) (w:World):Calls prog 90 #[.int .i64 id] w fun e b=>e=.returned (.int .i64 (qat id))/\w=b:=by
 have a:=hI (qdu id w);go_in;go_wp2_with (go_at_call 117;refine a.out.mono ?_;rintro _ _ ⟨rfl,rfl⟩);go_ret;exact ⟨rfl,rfl⟩
theorem list0_any (w:World):Calls prog 91 #[.int .i64 0] w fun e q=>e=.returned (.slice none 0 0)/\Below w.heap.size w q:=by
 have o:Hid (∀ k,k < 10->(#[.bool false,.bool false,.bool false,.bool false,.bool false,.bool false,.bool false,.bool false,.bool false,.bool false]:Array Value)[k]?=some (.bool false)):=by
  show ∀ k,_;intro k t;rcases (show k=0\/k=1\/k=2\/k=3\/k=4\/k=5\/k=6\/k=7\/k=8\/k=9 by omega) with rfl | rfl | rfl | rfl | rfl | rfl | rfl | rfl | rfl | rfl <;> rfl
 have m:=hI (qyx w);go_in;go_wp2_with (go_at_call 181;refine m.out.mono ?_;rintro _ h ⟨rfl,b⟩;have d:=hI b;clear b);have f:=vaw h (.cells #[.bool false,.bool false,.bool false,.bool false,.bool false,.bool false,.bool false,.bool false,.bool false,.bool false] 207);have a:=hI (qab d.out (.cells #[.bool false,.bool false,.bool false,.bool false,.bool false,.bool false,.bool false,.bool false,.bool false,.bool false] 207));obtain ⟨l,c⟩:∃ W,W=h.alloc (.cells #[.bool false,.bool false,.bool false,.bool false,.bool false,.bool false,.bool false,.bool false,.bool false,.bool false] 207):=⟨_,rfl⟩
 rw [<-c] at f a |-
 have n:=hI f;clear c f
 go_loop [3,5] (fun v i=>∃ k:Nat,v=.slice none 0 0/\i=.int .i64 k/\1<=k/\k<=10) (fun _ i=>10 - (intOf i).toNat)
 case atStart=>exact ⟨1,rfl,rfl,by omega,by omega⟩
 case round =>
  obtain ⟨k,rfl,rfl,s,p⟩:=hrel;by_cases g:k < 10
  .have u:(k:Int) < 10:=by omega
   have r:l.cell? ⟨h.heap.size,k,none⟩=some (.bool false):=(vas l _ k _ _ (0,0) n.out).trans (o.out k g);go_wp2;go_round
   case rel=>exact ⟨k + 1,rfl,by go_num,by omega,by omega⟩
   case measure=>simp [intOf];omega
  have j:decide ((k:Int) < 10)=false:=vab jo;go_wp2;go_ret;exact ⟨rfl,a.out⟩
theorem qrj (r:RP) (m:PM) (w:World) (h:RdP w r) (hm:RdM w m) (hf:FewC r) (hk:m.k=10) :
 Calls prog 29 #[.agg (encP r).toArray,.agg (msgC m)] w fun e o=>e=.returned (.bool (qep r m))/\Below w.heap.size w o:=by
 have N:Hid (∀ W,Below w.heap.size w W->Calls prog 15 #[.agg (encP r).toArray] W fun e o=>e=.returned (.int .i64 (repE r))/\Below W.heap.size W o):=fun W n=>qcx r W (h.below n) hf
 have HM:Hid (∀ W,Below w.heap.size w W->Calls prog 55 #[.agg (msgC m)] W fun e o=>(∃ v,e=.returned v/\ErrV o (if chkM m=0 then [] else [msgW]) (chkM m) v)/\Below W.heap.size W o):=fun W n=>Check_any m W (hm.next n)
 have O:Hid (qep r m=(chkR r && decide (chkM m=0) && decide (m.fr<=r.n) && !decide (m.fr=r.self))):=hears10 hk;have HZ:=hI (fun D:chkM m=0=>qpp D hk);obtain ⟨A,Z⟩:∃ b,qep r m=b:=⟨_,rfl⟩
 rw [Z] at O |-
 obtain ⟨z,k⟩:∃ z,z=(encP r).toArray:=⟨_,rfl⟩
 obtain ⟨M,b6⟩:=rowP k;obtain ⟨q,f⟩:∃ q,q=msgC m:=⟨_,rfl⟩
 have L:q.size=14:=by rw [f];rfl
 have Q:Hid (z[0]?=some (.int .i64 r.n)):=by show _=_;rw [k];rfl
 have a7:Hid (z[2]?=some (.int .i64 r.self)):=by show _=_;rw [k];rfl
 have a4:Hid (q[1]?=some (.int .i64 m.fr)):=by show _=_;rw [f];rfl
 have a5:Hid (q[2]?=some (.int .i64 m.id)):=by show _=_;rw [f];rfl
 have a6:Hid (q[7]?=some (.int .i64 m.q)):=by show _=_;rw [f];rfl
 have HN:=hI (fun I:chkR r=true=>(qew I).1);have J:∀ x y:Array Value,z=x->q=y->Calls prog 29 #[.agg x,.agg y] w fun e o=>e=.returned (.bool A)/\Below w.heap.size w o:=by
  rintro _ _ rfl rfl;rw [<-k] at N;rw [<-f] at HM;simp only [encP] at k;simp only [msgC] at f;clear h hm hf Z hk;rw [k,f];go_in;rw [<-k,<-f];clear k f;have c:=hI (BoxRM.init w z q);have x1:=c.out.r.box M;have x2:=c.out.r.rowAt;have x3:=c.out.m.box L;have x4:=c.out.m.rowAt;go_wp2_with fail;obtain ⟨g,a3⟩:∃ W,W=(w.alloc (.cells z 35)).alloc (.cells q 37):=⟨_,rfl⟩
  rw [<-a3] at c |-
  clear a3 x1 x2 x3 x4;have a8:=fun p:ExtW g=>(c.out.next p.h).r.box M
  have a9:=fun p:ExtW g=>(c.out.next p.h).r.rowAt
  have b0:=fun p:ExtW g=>(c.out.next p.h).m.box L
  have b1:=fun p:ExtW g=>(c.out.next p.h).m.rowAt
  have b2:=fun p:ExtW g=>(c.out.next p.h).r.at_ 0 Q.out
  have b3:=fun p:ExtW g=>(c.out.next p.h).r.at_ 2 a7.out
  have b4:=fun p:ExtW g=>(c.out.next p.h).m.at_ 1 a4.out
  by_cases I:chkR r=true
  .rw [qdh I] at N
   have s:=hI (fun p:ExtW g=>N.out p.to (qaa c.out.r.b p.h));have b5:=HN.out I;by_cases D:chkM m=0
   .obtain ⟨a0,a1⟩:=HZ.out D
    have E:Hid (∀ p:ExtW g,Calls prog 55 #[.agg q] p.to fun e o=>e=.returned .nilIface/\Below p.to.heap.size p.to o):=fun p=>(HM.out p.to (qaa c.out.r.b p.h)).mono fun e o ⟨⟨v,he,A⟩,n⟩=>by
     rw [D] at A;rcases A with ⟨_,_,rfl⟩ | ⟨h,_⟩
     .exact ⟨he,n⟩
     exact absurd rfl h
    have b7:=fun p:ExtW g=>((c.out.next p.h).m.at_ 2 a5.out).trans (show some (Value.int .i64 m.id)=some (.int .i64 0) by rw [a0])
    have B:=hI (fun p:ExtW g=>qph 0 p.to);have F:Hid (A=(decide (m.fr<=r.n) && !decide (m.fr=r.self))):=by
     show _=_;rw [O.out,I,vah D];rfl
    have a2:qat 0=0:=by decide
    rw [a2] at B;have d0:decide (r.n < 0)=false:=vab jo;clear a0 a2 O HZ D;by_cases U:r.n < m.fr
    .have d1:decide (r.n < m.fr)=true:=vah U
     have j:Hid (A=false):=by show _=_;rw [F.out,vab jo];rfl
     clear U;refine wprX ?_
     repeat (go_big_quiet_step ((first | (go_at_call 15;exact Calls.ext_of (s.out _)) | (go_at_call 55;exact Calls.ext_of (E.out _)) | (go_at_call 66;exact Calls.ext_same (B.out _)))))
     refine wpQn fun o d=>?_
     have l:=hI d;clear d;go_wp2;go_ret;exact ⟨qad j.out.symm,qaa c.out.r.b l.out⟩
    have d1:decide (r.n < m.fr)=false:=vab U;by_cases P:m.fr=r.self
    .have d2:(m.fr == r.self)=true:=vef.2 P
     have j:Hid (A=false):=by show _=_;rw [F.out,vah P,Bool.not_true,vdz]
     clear U P;refine wprX ?_
     repeat (go_big_quiet_step ((first | (go_at_call 15;exact Calls.ext_of (s.out _)) | (go_at_call 55;exact Calls.ext_of (E.out _)) | (go_at_call 66;exact Calls.ext_same (B.out _)))))
     refine wpQn fun o d=>?_
     have l:=hI d;clear d;go_wp2;go_ret;exact ⟨qad j.out.symm,qaa c.out.r.b l.out⟩
    have d2:(m.fr == r.self)=false:=vch.2 P;have j:Hid (A=true):=by show _=_;rw [F.out,vah (by omega:m.fr<=r.n),vab P];rfl
    clear U P;refine wprX ?_
    repeat (go_big_quiet_step ((first | (go_at_call 15;exact Calls.ext_of (s.out _)) | (go_at_call 55;exact Calls.ext_of (E.out _)) | (go_at_call 66;exact Calls.ext_same (B.out _)))))
    refine wpQn fun o d=>?_
    have l:=hI d;clear d;have R:=hI (c.out.next l.out);have q7:=(R.out.m.at_ 7 a6.out).trans (show some (Value.int .i64 m.q)=some (.int .i64 0) by rw [a1]);have q0:=R.out.r.at_ 0 Q.out;clear a1;go_wp2;go_ret;exact ⟨qad j.out.symm,qaa c.out.r.b l.out⟩
   have j:Hid (A=false):=by show _=_;rw [O.out,vab D,vdz];rfl
   have T:Hid (∀ W,Below g.heap.size g W->qdd W w.heap.size 18=true/\rowAt W w.heap.size=z/\qdd W (w.heap.size + 1) 14=true/\rowAt W (w.heap.size + 1)=q):=fun W n=>⟨(c.out.next n).r.box M,(c.out.next n).r.rowAt,(c.out.next n).m.box L,(c.out.next n).m.rowAt⟩
   clear O HZ a8 a9 b0 b1 b2 b3 b4;refine qct (S:=fun W=>qdd W w.heap.size 18=true/\rowAt W w.heap.size=z/\qdd W (w.heap.size + 1) 14=true/\rowAt W (w.heap.size + 1)=q) jk ?_;have G:Below g.heap.size g g.drew:=(vag _ _).drew;have a:=T.out _ G;refine qht (some 5) (i:=0) (v:=.agg z) rfl rfl jk jk jk (fun _ _ _ h=>h) (Or.inl ⟨by rfl,fun W X=>qeq rfl X.1 X.2.1⟩) a ?_;simp only [Act.put,sA,s0,s1];refine rdy1 1 rfl (fun K V=>?_);go_simp;refine (N.out _ (qaa c.out.r.b G)).mono ?_;rintro _ w1 ⟨rfl,n⟩;have C:Below g.heap.size g w1:=qaa G n;refine V.out _ _ (T.out _ C) (fun _=>?_);clear V K a n;have a:=T.out _ C;refine tkG 7 2 a ?_ (ha:=tzq);refine tkG 8 3 a ?_ (ha:=tzq);refine qht (some 9) (i:=4) (v:=.agg q) rfl rfl jk jk jk (fun _ _ _ h=>h) (Or.inl ⟨by rfl,fun W X=>load_msg rfl X.2.2.1 X.2.2.2⟩) a ?_;simp only [Act.put,sA,s0,s1];refine rdy1 5 rfl (fun K V=>?_);go_simp;refine (HM.out _ (qaa c.out.r.b C)).mono ?_;rintro _ w2 ⟨⟨v,rfl,Y⟩,n⟩;obtain ⟨vt,vu,rfl⟩:∃ t u,v=.iface t u:=by
    rcases Y with ⟨h,_⟩ | ⟨_,h⟩
    .exact absurd h D
    exact chain_if h
   have H:Below g.heap.size g w2:=qaa C n;refine V.out _ _ (T.out _ H) (fun _=>?_);clear V K a n Y;have a:=T.out _ H;refine tkG 11 6 a ?_ (ha:=tzq);refine tkG 12 7 a ?_ (ha:=tzq);refine tkG 13 8 a ?_ (ha:=tzq);refine tkN 14 9 rfl rfl a ?_;simp only [Act.put,sA,s0,s1];refine tkN 15 10 rfl rfl a ?_;simp only [Act.put,sA,s0,s1];refine tkN 16 11 rfl rfl a ?_;simp only [Act.put,sA,s0,s1];refine tkN 17 12 rfl rfl a ?_;simp only [Act.put,sA,s0,s1];refine tkN 18 13 rfl rfl a ?_;simp only [Act.put,sA,s0,s1];refine tkG 19 14 a ?_ (ha:=tzq);refine tkG 20 15 a ?_ (ha:=tzq);refine tkN 21 16 rfl rfl a ?_;simp only [Act.put,sA,s0,s1];refine tkN 22 17 rfl rfl a ?_;simp only [Act.put,sA,s0,s1];refine tkN 23 18 rfl rfl a ?_;simp only [Act.put,sA,s0,s1];refine tkN 24 19 rfl rfl a ?_;simp only [Act.put,sA,s0,s1];refine tkN 25 20 rfl rfl a ?_;simp only [Act.put,sA,s0,s1];refine tkG 26 21 a ?_ (ha:=tzq);refine tkG 27 22 a ?_ (ha:=tzq);refine tkN 28 23 rfl rfl a ?_;simp only [Act.put,sA,s0,s1];refine tkN 29 24 rfl rfl a ?_;simp only [Act.put,sA,s0,s1];refine tkN 30 25 rfl rfl a ?_;simp only [Act.put,sA,s0,s1];refine tkN 31 26 rfl rfl a ?_;simp only [Act.put,sA,s0,s1];refine tkN 32 27 rfl rfl a ?_;simp only [Act.put,sA,s0,s1];refine tkN 33 28 rfl rfl a ?_;simp only [Act.put,sA,s0,s1];refine tkG 34 29 a ?_ (ha:=tzq);refine qbw jk ?_ _;go_wp2;go_ret;exact ⟨qad j.out.symm,qaa c.out.r.b H⟩
  rw [qev I] at N;have s:=hI (fun p:ExtW g=>N.out p.to (qaa c.out.r.b p.h));have j:Hid (A=false):=by show _=_;rw [O.out,vbi.2 I];rfl
  refine wprX ?_
  repeat (go_big_quiet_step ((first | (go_at_call 15;exact Calls.ext_of (s.out _)))))
  refine wpQn fun o d=>?_
  have l:=hI d;clear d;go_wp2;go_ret;exact ⟨qad j.out.symm,qaa c.out.r.b l.out⟩
 exact J _ _ k f
theorem qrk (r:RP) (m:PM) (w:World) (h:RdP w r) (hm:RdM w m) (hf:FewC r) (Z:m.k=10) :
 Calls prog 36 #[.agg (encP r).toArray,.agg (msgC m)] w fun e o=>e=.returned (.bool (qep r m))/\Below w.heap.size w o:=by
 have E:Hid (∀ W,Below w.heap.size w W->Calls prog 48 #[.agg (encP r).toArray] W fun e o=>e=.returned (.int .i64 (repE r))/\Below W.heap.size W o):=fun W Y=>qfe r W (h.below Y) hf
 have Q:Hid (∀ W,Below w.heap.size w W->Calls prog 89 #[.agg (msgC m)] W fun e o=>e=.returned (.int .i64 (chkM m))/\Below W.heap.size W o):=fun W Y=>by
  have:=rChk_any m W (hm.next Y)
  rwa [chkR_eq] at this
 have C:Hid (qep r m=(chkR r && decide (chkM m=0) && decide (m.fr<=r.n) && !decide (m.fr=r.self))):=hears10 Z;have X:=hI (fun t:chkM m=0=>qpp t Z);obtain ⟨B,J⟩:∃ b,qep r m=b:=⟨_,rfl⟩
 rw [J] at C |-
 obtain ⟨v,j⟩:∃ v,v=(encP r).toArray:=⟨_,rfl⟩
 obtain ⟨O,a1⟩:=rowP j;obtain ⟨s,g⟩:∃ s,s=msgC m:=⟨_,rfl⟩
 have N:s.size=14:=by rw [g];rfl
 have F:Hid (v[0]?=some (.int .i64 r.n)):=by show _=_;rw [j];rfl
 have V:Hid (v[2]?=some (.int .i64 r.self)):=by show _=_;rw [j];rfl
 have S:Hid (s[1]?=some (.int .i64 m.fr)):=by show _=_;rw [g];rfl
 have T:Hid (s[2]?=some (.int .i64 m.id)):=by show _=_;rw [g];rfl
 have U:Hid (s[7]?=some (.int .i64 m.q)):=by show _=_;rw [g];rfl
 have HN:=hI (fun z:chkR r=true=>(qew z).1);have A:∀ x y:Array Value,v=x->s=y->Calls prog 36 #[.agg x,.agg y] w fun e o=>e=.returned (.bool B)/\Below w.heap.size w o:=by
  rintro _ _ rfl rfl;rw [<-j] at E;rw [<-g] at Q;simp only [encP] at j;simp only [msgC] at g;clear h hm hf J Z;rw [j,g];go_in;rw [<-j,<-g];clear j g;have d:=hI (BoxRM.init w v s);have x1:=d.out.r.box O;have x2:=d.out.r.rowAt;have x3:=d.out.m.box N;have x4:=d.out.m.rowAt;go_wp2_with fail;obtain ⟨n,P⟩:∃ W,W=(w.alloc (.cells v 35)).alloc (.cells s 37):=⟨_,rfl⟩
  rw [<-P] at d |-
  clear P x1 x2 x3 x4;have a2:=fun p:ExtW n=>(d.out.next p.h).r.box O
  have a3:=fun p:ExtW n=>(d.out.next p.h).r.rowAt
  have a4:=fun p:ExtW n=>(d.out.next p.h).m.box N
  have a5:=fun p:ExtW n=>(d.out.next p.h).m.rowAt
  have a6:=fun p:ExtW n=>(d.out.next p.h).r.at_ 0 F.out
  have a7:=fun p:ExtW n=>(d.out.next p.h).r.at_ 2 V.out
  have a8:=fun p:ExtW n=>(d.out.next p.h).m.at_ 1 S.out
  by_cases z:chkR r=true
  .rw [qdh z] at E
   have k:=hI (fun p:ExtW n=>E.out p.to (qaa d.out.r.b p.h));have a0:=HN.out z;by_cases t:chkM m=0
   .obtain ⟨K,L⟩:=X.out t
    rw [t] at Q;have l:=hI (fun p:ExtW n=>Q.out p.to (qaa d.out.r.b p.h));have a9:=fun p:ExtW n=>((d.out.next p.h).m.at_ 2 T.out).trans (show some (Value.int .i64 m.id)=some (.int .i64 0) by rw [K])
    have q:=hI (fun p:ExtW n=>qyy 0 p.to);have u:Hid (B=(decide (m.fr<=r.n) && !decide (m.fr=r.self))):=by
     show _=_;rw [C.out,z,vah t];rfl
    have M:qat 0=0:=by decide
    rw [M] at q;have d0:decide (r.n < 0)=false:=vab jo;clear K M C X t;by_cases H:r.n < m.fr
    .have d1:decide (r.n < m.fr)=true:=vah H
     have i:Hid (B=false):=by show _=_;rw [u.out,vab jo];rfl
     clear H;refine wprX ?_
     repeat (go_big_quiet_step ((first | (go_at_call 48;exact Calls.ext_of (k.out _)) | (go_at_call 89;exact Calls.ext_of (l.out _)) | (go_at_call 90;exact Calls.ext_same (q.out _)))))
     refine wpQn fun o a=>?_
     have f:=hI a;clear a;go_wp2;go_ret;exact ⟨qad i.out.symm,qaa d.out.r.b f.out⟩
    have d1:decide (r.n < m.fr)=false:=vab H;by_cases D:m.fr=r.self
    .have d2:(m.fr == r.self)=true:=vef.2 D
     have i:Hid (B=false):=by show _=_;rw [u.out,vah D,Bool.not_true,vdz]
     clear H D;refine wprX ?_
     repeat (go_big_quiet_step ((first | (go_at_call 48;exact Calls.ext_of (k.out _)) | (go_at_call 89;exact Calls.ext_of (l.out _)) | (go_at_call 90;exact Calls.ext_same (q.out _)))))
     refine wpQn fun o a=>?_
     have f:=hI a;clear a;go_wp2;go_ret;exact ⟨qad i.out.symm,qaa d.out.r.b f.out⟩
    have d2:(m.fr == r.self)=false:=vch.2 D;have i:Hid (B=true):=by show _=_;rw [u.out,vah (by omega:m.fr<=r.n),vab D];rfl
    clear H D;refine wprX ?_
    repeat (go_big_quiet_step ((first | (go_at_call 48;exact Calls.ext_of (k.out _)) | (go_at_call 89;exact Calls.ext_of (l.out _)) | (go_at_call 90;exact Calls.ext_same (q.out _)))))
    refine wpQn fun o a=>?_
    have f:=hI a;clear a;have G:=hI (d.out.next f.out);have q7:=(G.out.m.at_ 7 U.out).trans (show some (Value.int .i64 m.q)=some (.int .i64 0) by rw [L]);have q0:=G.out.r.at_ 0 F.out;clear L;go_wp2_with (go_at_call 91;refine (list0_any _).mono ?_;rintro _ wl ⟨rfl,I⟩;have R:=hI (qaa f.out I);clear I);go_quiet (fail);go_wp2;go_ret;exact ⟨qad i.out.symm,qaa d.out.r.b (qaj R.out _)⟩
   have i:Hid (B=false):=by show _=_;rw [C.out,vab t,vdz];rfl
   have l:=hI (fun p:ExtW n=>Q.out p.to (qaa d.out.r.b p.h));have d0:(chkM m != 0)=true:=bne_iff_ne.2 t;clear C X;generalize chkM m=c at l d0 t;refine wprX ?_
   repeat (go_big_quiet_step ((first | (go_at_call 48;exact Calls.ext_of (k.out _)) | (go_at_call 89;exact Calls.ext_of (l.out _)))))
   refine wpQn fun o a=>?_
   have f:=hI a;clear a;go_wp2;go_ret;exact ⟨qad i.out.symm,qaa d.out.r.b f.out⟩
  rw [qev z] at E;have k:=hI (fun p:ExtW n=>E.out p.to (qaa d.out.r.b p.h));have i:Hid (B=false):=by show _=_;rw [C.out,vbi.2 z];rfl
  refine wprX ?_
  repeat (go_big_quiet_step ((first | (go_at_call 48;exact Calls.ext_of (k.out _)))))
  refine wpQn fun o a=>?_
  have f:=hI a;clear a;go_wp2;go_ret;exact ⟨qad i.out.symm,qaa d.out.r.b f.out⟩
 exact A _ _ j g
end
section
attribute [local go_sem ↓] qbe
attribute [local go_sem] qbp qbb qbv
def othK (self:Int) (k:Nat):Array Int:=(((List.range k).map fun (i:Nat)=>(i:Int) + 1).filter fun x=>decide (x≠self)).toArray
theorem qrl (a:Int) (k:Nat):othK a (k + 1)=if (k:Int) + 1=a then othK a k else (othK a k).push ((k:Int) + 1):=by
 unfold othK;rw [List.range_succ,vdn,vdq];by_cases h:(k:Int) + 1=a
 .rw [vam h];simp [h]
 rw [vao h];simp [h]
theorem qme (a:Int) (k:Nat):(othK a k).size<=k:=by
 unfold othK
 have:=vcf (fun x=>decide (x≠a)) ((List.range k).map fun (i:Nat)=>(i:Int) + 1)
 simpa using this
structure OU where
 t:Int
 m:PM
instance:Inhabited OU:=⟨⟨0,⟨0,0,0,0,0,0,0,0,⟨#[]⟩,0,0,none,0,#[],none,0,#[],0⟩⟩⟩
def qde (x:OU):List Value:=.int .i64 x.t :: (msgC x.m).toList
theorem qrm (x:OU):(qde x).length=15:=rfl
theorem encOU_1 (x:OU):∀ u ∈ qde x,u.oneCell'=true:=by
 intro u a;simp [qde,msgC] at a;rcases a with rfl | rfl | rfl | rfl | rfl | rfl | rfl | rfl | rfl | rfl | rfl | rfl | rfl | rfl | rfl <;> rfl
theorem qyz (r:RP) (w:World) (K:1<=r.n/\r.n<=9) :
 Calls prog 146 #[.agg (encP r).toArray] w fun e p=>(∃ v,e=.returned v/\p.ownsRow w.heap.size 3 1 v (othK r.self r.n.toNat).size ((othK r.self r.n.toNat).toList.map (Value.int .i64)))/\Below w.heap.size w p:=by
 obtain ⟨N,A,D,E,F⟩:=vbo qcc;obtain ⟨n,o⟩:∃ n:Nat,r.n=(n:Int):=⟨r.n.toNat,by omega⟩
 obtain ⟨c,l⟩:∃ x,r.self=x:=⟨_,rfl⟩
 obtain ⟨d,a⟩:∃ d,d=(encP r).toArray:=⟨_,rfl⟩
 have y:Hid (d[0]?=some (.int .i64 (n:Int))):=by show _=_;rw [a,<-o];rfl
 have z:Hid (d[2]?=some (.int .i64 c)):=by show _=_;rw [a,<-l];rfl
 have g:∀ x:Array Value,d=x->Calls prog 146 #[.agg x] w fun e p=>(∃ v,e=.returned v/\p.ownsRow w.heap.size 3 1 v (othK c n).size ((othK c n).toList.map (Value.int .i64)))/\Below w.heap.size w p:=by
  rintro _ rfl;simp only [encP] at a;have L:n<=9:=by omega
  clear K o l;rw [a];go_in;go_upto_region 3 with fail
  rw [<-a];clear a;have G:=hI (show BoxG w w.heap.size d 186 (w.alloc (.cells d 186)) from ⟨bel1 w _,vaw w _⟩);obtain ⟨q,m⟩:∃ W,W=w.alloc (.cells d 186):=⟨_,rfl⟩
  have C:w.heap.size<=q.heap.size:=by rw [m];simp
  rw [<-m] at G |-
  clear m
  go_loopw [3,4] (fun v i wr=>∃ (k:Nat),i=.int .i64 ((k:Int) + 1)/\k<=n/\wr.ownsRow q.heap.size 3 1 v (othK c k).size ((othK c k).toList.map (Value.int .i64))/\Hid (Below q.heap.size q wr)) (fun _ i _=>n + 1 - (intOf i).toNat)
  case atStart=>exact ⟨0,rfl,vaj _,vcj _ _ _ _,hI (vag _ _)⟩
  case round =>
   obtain ⟨k,rfl,Q,b,s⟩:=hrel;have f:=hI (G.out.next s.out);have O:=f.out.at_ 0 y.out;have P:=f.out.at_ 2 z.out;have I:=s.out.size;by_cases J:k < n
   .have R:decide ((k:Int) + 1<=(n:Int))=true:=vah jo
    by_cases t:(k:Int) + 1=c
    .have B:((k:Int) + 1 != c)=false:=by simp [t]
     go_wp2;go_roundw
     case rel=>exact ⟨k + 1,by go_num,by omega,by rw [qrl,vam t];exact b,s⟩
     case measure=>simp [intOf];omega
    have B:((k:Int) + 1 != c)=true:=by simp [t]
    have M:=qme c k;go_wp2_with (at_builtin;refine vay _ rfl _ _ 26 rfl q.heap.size 3 N (.int .i64 0) 1 8 underlying26 A D E F rfl jd _ _ _ rfl (World.ownsRow.alloc b _) ⟨wr.heap.size,0,none⟩ 1 1 [.int .i64 ((k:Int) + 1)] rfl rfl (qdr _ _ _) jV jl jo jso ?_;intro S T j h _;have u:=hI (qcr s.out b h));go_roundw
    case rel=>exact ⟨k + 1,by go_num,by omega,by rw [qrl,vao t];simpa using j,u⟩
    case measure=>simp [intOf];omega
   have H:decide ((k:Int) + 1<=(n:Int))=false:=vab jo;obtain rfl:k=n:=by omega
   go_wp2;go_ret;exact ⟨⟨_,rfl,qdj b C⟩,f.out.b⟩
 have:=g _ a
 rw [<-l,show n=r.n.toNat by omega] at this;exact this
end
section
def qmf (t:TypeId) (v x:Value):Sem Unit:=Instr.storeAt t v x
theorem qhw (ρ:Operand->Value) (dst:Option Tmp) (x y:Operand) (a:TypeId) (pos:String) (after:Array Edge) (guard:Option (Nat×Bool)) :
 execOp ρ { dst,op:=.store 53 x y,type:=a,pos,after,guard }=(do qmf 53 (ρ x) (ρ y);pure .skip):=rfl
theorem qjn (W:World) (g:Nat) (cs:Array Value) (h:qdd W g 15=true) (a:cs.size=15) (b:qfy cs=true) :
 (qmf 53 (.pointer (some ⟨g,0,none⟩)) (.agg cs)).run prog W=.ok () (W.setRow g cs):=by
 obtain ⟨t,c,d⟩:=qjk h;simp only [qmf,Instr.storeAt,Instr.sureAddr,Sem.run_bind,Sem.run_pure,Result.andThen];exact run_storeVar_row W g t 53 _ cs c (by rw [a];kernel_rfl) (by rw [d,a]) b
theorem quc {W:World} {g:Nat} {cs:Array Value} {T:TypeId} (h:W.heap[g]?=some (.cells cs T (0,0))) (a:cs.size=15):(loadVar 53 ⟨g,0,none⟩).run prog W=.ok (.agg cs) W :=
 vek W g T 53 cs (0,0) _ h underlying53 rfl (by rw [a];kernel_rfl)
theorem qud {c:Func} {t:Tmp} (e:c.results=#[.cell t 53]) {b:Array Value} {W:World} {g:Nat} {cs:Array Value} {T:TypeId} (f:b.getD t undef=.pointer (some ⟨g,0,none⟩)) (h:W.heap[g]?=some (.cells cs T (0,0))) (d:cs.size=15):(results c b).run prog W=.ok (.agg cs) W:=by
 have a:b[t]?.getD undef=.pointer (some ⟨g,0,none⟩):=by rw [<-vde];exact f
 simp [results,e,a,asAddr,quc h d]
attribute [local go_sem ↓] qap qan qbe qhw
attribute [local go_sem] qaw qao qal qbb qbv qbp qjn
theorem out_fold (t:Int) (m:PM):Array.foldl (fun (a:Array Value) (x:Value×Nat)=>a.setIfInBounds (1 + x.snd) x.fst) #[.int .i64 t,.int .i64 0,.int .i64 0,.int .i64 0,.int .i64 0,.int .i64 0,.int .i64 0,.int .i64 0,.int .i64 0,.string ⟨#[]⟩,.int .i64 0,.int .i64 0,.slice none 0 0,.slice none 0 0,.int .i64 0] (msgC m).zipIdx 0 14=(qde ⟨t,m⟩).toArray:=by kernel_rfl
def zerO:Array Value:=#[.int .i64 0,.int .i64 0,.int .i64 0,.int .i64 0,.int .i64 0,.int .i64 0,.int .i64 0,.int .i64 0,.int .i64 0,.string ⟨#[]⟩,.int .i64 0,.int .i64 0,.slice none 0 0,.slice none 0 0,.int .i64 0]
theorem qpq:(prog.info? 53).map (fun i=>(i.zero,i.size,i.bytes))=some (some (.agg #[.int .i64 0,.int .i64 0,.int .i64 0,.int .i64 0,.int .i64 0,.int .i64 0,.int .i64 0,.int .i64 0,.int .i64 0,.string ⟨#[]⟩,.int .i64 0,.int .i64 0,.slice none 0 0,.slice none 0 0,.int .i64 0]),15,160):=by kernel_rfl
theorem rowO {a:Array Value} {x:OU} (h:a=(qde x).toArray):a.size=15/\qfy a=true:=by
 subst h;exact ⟨rfl,by simp [qde,msgC,Value.oneCell',qfy]⟩
theorem one_any (r:RP) (m:PM) (t:Int) (w:World) :
 Calls prog 145 #[.agg (encP r).toArray,.int .i64 t,.agg (msgC m)] w fun e F=>e=.returned (.agg (qde ⟨t,{ m with fr:=r.self }⟩).toArray)/\Below w.heap.size w F:=by
 obtain ⟨p,o⟩:∃ x,r.self=x:=⟨_,rfl⟩
 obtain ⟨f,d⟩:∃ f,f=(encP r).toArray:=⟨_,rfl⟩
 obtain ⟨h,a⟩:∃ h,h=msgC m:=⟨_,rfl⟩
 obtain ⟨v,i⟩:∃ v,v=(qde ⟨t,{ m with fr:=p }⟩).toArray:=⟨_,rfl⟩
 obtain ⟨E,K⟩:=rowO i;have A:Hid (f[2]?=some (.int .i64 p)):=by show _=_;rw [d,<-o];rfl
 have z:Hid (h[1]?=some (.int .i64 m.fr)):=by show _=_;rw [a];rfl
 obtain ⟨k,b⟩:∃ c,c=msgC { m with fr:=p }:=⟨_,rfl⟩
 have H:Hid (h.setIfInBounds 1 (.int .i64 p)=k):=by show _=_;rw [a,b];rfl
 have G:Array.foldl (fun (f:Array Value) (x:Value×Nat)=>f.setIfInBounds (1 + x.snd) x.fst) #[.int .i64 t,.int .i64 0,.int .i64 0,.int .i64 0,.int .i64 0,.int .i64 0,.int .i64 0,.int .i64 0,.int .i64 0,.string ⟨#[]⟩,.int .i64 0,.int .i64 0,.slice none 0 0,.slice none 0 0,.int .i64 0] k.zipIdx 0 14=v:=by rw [b,i];exact out_fold t _
 have D:k.size=14:=by rw [b];rfl
 rw [o,<-i];clear o i b;have l:∀ x y:Array Value,f=x->h=y->Calls prog 145 #[.agg x,.int .i64 t,.agg y] w fun e F=>e=.returned (.agg v)/\Below w.heap.size w F:=by
  rintro _ _ rfl rfl;simp only [encP] at d;simp only [msgC] at a;rw [d,a];go_in;rw [<-d,<-a];clear d a;have B:=hI (BoxG.t1 w f h zerO 186 37 53);have q:=hI (BoxG.t2 w f h zerO 186 37 53);have C:=hI (BoxG.t3 w f h zerO 186 37 53);simp only [zerO] at B q C;go_upto_region 1 with fail
  obtain ⟨N,u⟩:∃ W,W=(((w.alloc (.cells f 186)).alloc (.cells h 37)).alloc (.cells #[.int .i64 0,.int .i64 0,.int .i64 0,.int .i64 0,.int .i64 0,.int .i64 0,.int .i64 0,.int .i64 0,.int .i64 0,.string ⟨#[]⟩,.int .i64 0,.int .i64 0,.slice none 0 0,.slice none 0 0,.int .i64 0] 53)):=⟨_,rfl⟩
  rw [<-u] at B q C |-
  clear u;have I:=B.out.at_ 2 A.out;have L:=q.out.at_ 1 z.out;have J:=q.out.froz 1;go_upto_region 2 with fail
  have g:=hI (q.out.set jo 1 (.int .i64 p));have s:=hI (C.out.far (g2:=w.heap.size + 1) jo jo 1 (.int .i64 p));rw [H.out] at g;have O:=g.out.box D;have P:=g.out.rowAt;have Q:=s.out.box (n:=15) rfl;clear I L J;go_wp2;refine vau (qud rfl rfl (vbz _ _ _ _ _ _ s.out.row) E) rfl ?_;exact ⟨rfl,g.out.b.trans ⟨rfl,rfl,rfl,by simp,fun j M=>vbg _ _ j _ jo⟩⟩
 exact l _ _ d a
def qpr (m:PM) (l:List Int):List OU:=l.map fun t=>⟨t,m⟩
def qmg (os:List OU):List Value:=os.flatMap qde
theorem qza (a:List OU) (x:OU):qmg (a ++ [x])=qmg a ++ qde x:=by simp [qmg]
theorem qzb (m:PM) (l:List Int) (t:Int):qpr m (l ++ [t])=qpr m l ++ [⟨t,m⟩]:=by simp [qpr]
def allO (r:RP) (m:PM):List OU:=qpr { m with fr:=r.self } (othK r.self r.n.toNat).toList
theorem news_at {W:World} {a:Array Value} {x:OU} (h:a=(qde x).toArray) (T:TypeId) (j:Nat) (u:Value) (b:(qde x)[j]?=some u):(W.alloc (.cells a T)).cell? (Addr.add ⟨W.heap.size,0,none⟩ j)=some u:=by
 rw [Addr.add_lit,vcc,vas _ _ j _ _ (0,0) (vaw W _),h];simpa using b
theorem qrn (r:RP):Array.foldl (fun (a:Array Value) (x:Value×Nat)=>a.setIfInBounds x.snd x.fst) #[.int .i64 0,.int .i64 0,.int .i64 0,.int .i64 0,.int .i64 0,.int .i64 0,.int .i64 0,.slice none 0 0,.slice none 0 0,.slice none 0 0,.slice none 0 0,.slice none 0 0,.slice none 0 0,.int .i64 0,.int .i64 0,.int .i64 0,.slice none 0 0,.slice none 0 0] (encP r).toArray.zipIdx 0 18=(encP r).toArray:=by kernel_rfl
theorem outs_fold (x:OU):Array.foldl (fun (a:Array Value) (x:Value×Nat)=>a.setIfInBounds x.snd x.fst) #[.int .i64 0,.int .i64 0,.int .i64 0,.int .i64 0,.int .i64 0,.int .i64 0,.int .i64 0,.int .i64 0,.int .i64 0,.string ⟨#[]⟩,.int .i64 0,.int .i64 0,.slice none 0 0,.slice none 0 0,.int .i64 0] (qde x).toArray.zipIdx 0 (qde x).toArray.size=(qde x).toArray:=by kernel_rfl
theorem take_snoc {l:List Int} {k:Nat} {S:Array Int} (b:l=S.toList) (a:k < S.size):l.take (k + 1)=l.take k ++ [S[k]!]:=by
 subst b;rw [vdb,vae S k a,vbl (by simpa using a)];simp
theorem qoo (r:RP) (m:PM) (w:World) (h:RdP w r) (hf:FewC r) :
 Calls prog 64 #[.agg (encP r).toArray,.agg (msgC m)] w fun e d=>(∃ v,e=.returned v/\(chkR r=true->d.ownsRow w.heap.size 53 15 v (allO r m).length (qmg (allO r m)))/\(chkR r=false->v=.slice none 0 0))/\Below w.heap.size w d:=by
 obtain ⟨i0,a9,b5,b6,b7⟩:=vbo qpq;have I:Hid (∀ W,Below w.heap.size w W->Calls prog 15 #[.agg (encP r).toArray] W fun e d=>e=.returned (.int .i64 (repE r))/\Below W.heap.size W d):=fun W b=>qcx r W (h.below b) hf
 have j:Hid ((1<=r.n/\r.n<=9)->∀ W,Calls prog 146 #[.agg (encP r).toArray] W fun e d=>(∃ v,e=.returned v/\d.ownsRow W.heap.size 3 1 v (othK r.self r.n.toNat).size ((othK r.self r.n.toNat).toList.map (Value.int .i64)))/\Below W.heap.size W d):=fun hn W=>qyz r W hn
 have q:Hid (∀ t W,Calls prog 145 #[.agg (encP r).toArray,.int .i64 t,.agg (msgC m)] W fun e d=>e=.returned (.agg (qde ⟨t,{ m with fr:=r.self }⟩).toArray)/\Below W.heap.size W d):=fun t W=>one_any r m t W
 have c3:∀ (fn:Fn) (first O:Array Value) (w:World),(Instr.makeFunc fn first O).run prog w=.ok (.func fn first O) w:=fun _ _ _ _=>rfl
 have K:Hid (allO r m=qpr { m with fr:=r.self } (othK r.self r.n.toNat).toList):=rfl;have b2:=qme r.self r.n.toNat;have HN:=hI (fun s:chkR r=true=>(qew s).1);obtain ⟨n,a⟩:∃ n,n=(encP r).toArray:=⟨_,rfl⟩
 obtain ⟨R,c0⟩:=rowP a;obtain ⟨J,c⟩:∃ J,J=msgC m:=⟨_,rfl⟩
 have b3:J.size=14:=by rw [c];rfl
 have a1:Array.foldl (fun (n:Array Value) (x:Value×Nat)=>n.setIfInBounds x.snd x.fst) #[.int .i64 0,.int .i64 0,.int .i64 0,.int .i64 0,.int .i64 0,.int .i64 0,.int .i64 0,.slice none 0 0,.slice none 0 0,.slice none 0 0,.slice none 0 0,.slice none 0 0,.slice none 0 0,.int .i64 0,.int .i64 0,.int .i64 0,.slice none 0 0,.slice none 0 0] n.zipIdx 0 18=n:=by rw [a];exact qrn r
 obtain ⟨m2,G⟩:∃ m2,({ m with fr:=r.self }:PM)=m2:=⟨_,rfl⟩
 obtain ⟨S,hS⟩:∃ S,othK r.self r.n.toNat=S:=⟨_,rfl⟩
 obtain ⟨AL,D⟩:∃ A,allO r m=A:=⟨_,rfl⟩
 rw [hS,G,D] at K;rw [hS] at b2 j;rw [G] at q;rw [D];rw [<-a] at I j;rw [<-a,<-c] at q;have a4:Hid (∀ t W,Calls prog 145 #[.agg n,.int .i64 t,.agg J] W fun e d=>(∃ C:Array Value,e=.returned (.agg C)/\C=(qde ⟨t,m2⟩).toArray/\C.size=15/\Array.foldl (fun (n:Array Value) (x:Value×Nat)=>n.setIfInBounds x.snd x.fst) #[.int .i64 0,.int .i64 0,.int .i64 0,.int .i64 0,.int .i64 0,.int .i64 0,.int .i64 0,.int .i64 0,.int .i64 0,.string ⟨#[]⟩,.int .i64 0,.int .i64 0,.slice none 0 0,.slice none 0 0,.int .i64 0] C.zipIdx 0 C.size=C)/\Below W.heap.size W d):=fun t W=>(q.out t W).mono fun e d ⟨he,b⟩=>⟨⟨_,he,rfl,rfl,outs_fold _⟩,b⟩
 clear q;clear h hf G hS D;have E:∀ x y:Array Value,n=x->J=y->Calls prog 64 #[.agg x,.agg y] w fun e d=>(∃ v,e=.returned v/\(chkR r=true->d.ownsRow w.heap.size 53 15 v AL.length (qmg AL))/\(chkR r=false->v=.slice none 0 0))/\Below w.heap.size w d:=by
  rintro _ _ rfl rfl;simp only [encP] at a;simp only [msgC] at c;rw [a,c];go_in;rw [<-a,<-c];clear a c;have z:=hI (BoxRM.init w n J);have x1:=z.out.r.box R;have x2:=z.out.r.rowAt;by_cases s:chkR r=true
  .rw [qdh s] at I
   have b1:=HN.out s;have j:=hI (j.out ⟨by omega,b1.2⟩);have c4:r.n.toNat<=9:=by omega
   go_upto_region 6 with (first
    | (go_at_call 15;refine (I.out _ z.out.r.b).mono ?_;rintro _ w1 ⟨rfl,b⟩;have f:=hI (z.out.next b);clear b x1 x2;have x1:=f.out.r.box R;have x2:=f.out.r.rowAt)
    | (go_at_call 146;refine (j.out _).mono ?_;rintro _ w2 ⟨⟨vo,rfl,T⟩,b⟩;have N:=hI (f.out.next b);obtain ⟨⟨xA,xc,g⟩,V,Y,U⟩:=qcf T;have Z:g=S:=(by rw [show g=_ from Y]);have X:vo=.slice xA g.size xc:=V;subst X Z;have a5:=hI U.rd;clear b T x1 x2 Y V U))
   clear a1 I z f
   go_loopw [6,8,19] (fun v t8 i wr=>∃ k:Nat,i=.int .i64 k/\k<=g.size/\wr.ownsRow w2.heap.size 53 15 v k (qmg (qpr m2 (g.toList.take k)))/\Hid (Below w2.heap.size w2 wr)) (fun _ _ i _=>g.size - (intOf i).toNat)
   case atStart=>exact ⟨0,rfl,vaj _,vcj _ _ _ _,hI (vag _ _)⟩
   case round =>
    obtain ⟨k,rfl,hk,u,HB⟩:=hrel;have B:=hI (N.out.next HB.out);have c2:=HB.out.size;by_cases Q:k < g.size
    .have kz:(k:Int) < (g.size:Int):=by omega
     obtain ⟨bs,os,rfl,a6,fs⟩:=a5.out jo;have ck:=(HB.out.cell (p:=⟨bs,os + k,none⟩) a6).trans (fs k Q);have M:=hI (take_snoc (l:=g.toList) rfl Q);obtain ⟨t,ht⟩:∃ t,g[k]! = t:=⟨_,rfl⟩
     rw [ht] at ck M;clear fs ht;have x3:=B.out.m.box b3;have x4:=B.out.m.rowAt
     go_wp2_with (first
      | (go_at_call 145;refine (a4.out _ _).mono ?_;rintro _ w3 ⟨⟨C,rfl,P,b4,a7⟩,b⟩;have a8:=a7;rw [b4] at a8;have L:=hI (qaa HB.out b);have a3:=hI P;have b8:=L.out.size;have o:=qeh u b;clear P b x3 x4 ck)
      | (at_builtin;refine vay _ rfl _ _ 41 rfl w2.heap.size 53 i0 (.agg #[.int .i64 0,.int .i64 0,.int .i64 0,.int .i64 0,.int .i64 0,.int .i64 0,.int .i64 0,.int .i64 0,.int .i64 0,.string ⟨#[]⟩,.int .i64 0,.int .i64 0,.slice none 0 0,.slice none 0 0,.int .i64 0]) 15 160 underlying41 a9 b5 b6 b7 rfl jd _ _ _ rfl (World.ownsRow.alloc o _) ⟨w3.heap.size,0,none⟩ 1 1 (qde ⟨t,m2⟩) rfl rfl (news_at a3.out _) (encOU_1 _) jl jo jso ?_;intro v' w4 H F _;have a0:=hI (qcr L.out o F)))
     go_roundw
     case rel=>exact ⟨k + 1,by go_num,by omega,by rw [M.out,qzb,qza];exact H,a0⟩
     case measure=>simp [intOf];omega
    have b9:decide ((k:Int) < (g.size:Int))=false:=vab jo;obtain rfl:k=g.size:=by omega
    go_wp2;go_ret;refine ⟨⟨_,rfl,fun _=>?_,fun h=>absurd s (by rw [h];decide)⟩,B.out.r.b⟩;rw [K.out];have b0:=N.out.r.b.size
    have:=qdj u b0
    rw [vaz js] at this;simpa [qpr] using this
  rw [qev s] at I;have c1:Hid (chkR r=false):=by show _=_;simpa using s
  have a2:=hI s;clear s;go_wp2_with (go_at_call 15;refine (I.out _ z.out.r.b).mono ?_;rintro _ w1 ⟨rfl,b⟩;have f:=hI (z.out.next b);clear b x1 x2);go_ret;exact ⟨⟨_,rfl,fun h=>absurd h a2.out,fun _=>rfl⟩,f.out.r.b⟩
 exact E _ _ a c
end
def catO (m:Array (RW OU)):Nat->Array OU
 | 0=>#[]
 | k + 1=>catO m k ++ m[k]!.z
theorem GrowO_any (N:Nat) (w:World) (u:N<=1000000) :
 Calls prog 204 #[.slice none 0 0,.int .i64 N] w fun e o=>∃ v,e=.returned v/\o.ownsRow w.heap.size 53 15 v 0 []/\Below w.heap.size w o:=by
 obtain ⟨r,h,i,j,k⟩:=vbo qpq;have s:decide ((N:Int) < 0)=false:=vab jo;by_cases p:0 < N
 .have a:=Lib.run_append_nil_zeros (P:=prog) w 41 3 41 53 r (.agg zerO) .i64 .i64 underlying41 underlying3 h i N p (by rw [j];decide) jo (by rw [k];omega)
  have t:decide (0 < (N:Int))=true:=vah jo;obtain ⟨G,g⟩:∃ G,grownCap w N 0 53 = G:=⟨_,rfl⟩
  have q:N<=G:=by rw [<-g];exact grownCap_ge w N 0 53
  have d:G<=maxLen:=by rw [<-g];exact grownCap_le_maxLen w N 0 53 jl
  rw [g] at a;obtain ⟨c,b⟩:∃ Z,Builtin.zeroCells (Value.agg zerO).cells N ++ Builtin.zeroCells (Value.agg zerO).cells (G - N)=Z:=⟨_,rfl⟩
  have l:c.size=G * 15:=by
   rw [<-b,vdd,size_zeroCells,size_zeroCells];show N * 15 + (G - N) * 15=G * 15;omega
  rw [b] at a;have n:Hid ((w.drew.alloc (.cells c 53)).ownsRow w.heap.size 53 15 (.slice (some ⟨w.heap.size,0,none⟩) 0 G) 0 []):=hI (vev w.drew c G (vaa _) d jo);have m:Hid (Below w.heap.size w (w.drew.alloc (.cells c 53))):=hI ((vag _ w).drew.alloc (vaa _) _);obtain ⟨x,f⟩:∃ W,W=w.drew.alloc (.cells c 53):=⟨_,rfl⟩
  rw [<-f] at n m a;clear f g b l d;go_in;go_wp2_with (at_builtin;refine Lib.wpList_append_run _ rfl _ _ _ _ rfl _ _ rfl rfl _ _ a ?_);go_ret;exact ⟨_,rfl,n.out,m.out⟩
 obtain rfl:N=0:=by omega
 go_in;go_wp2;go_ret;exact ⟨_,rfl,vcj _ _ _ _,vag _ _⟩
theorem que (A:Option Addr) (c:Nat) (m:Array (RW OU)) (w:World) (h:RdK encW 1 w.heap.size w A m) (S:∀ i,i < m.size->RdN qde 15 w m[i]!) (hm:m.size<=1000) (U:∀ k,k<=m.size->(catO m k).size<=100000) :
 Calls prog 137 #[.slice A m.size c] w fun e V=>∃ v,e=.returned v/\V.ownsRow w.heap.size 53 15 v (catO m m.size).size (flatK qde 15 (catO m m.size)).toList/\Below w.heap.size w V:=by
 obtain ⟨j0,H,L,M,N⟩:=vbo qpq;have P:=hI h;have Y:=hI S;have B:=hI U;have E:Hid (∀ k,catO m (k + 1)=catO m k ++ m[k]!.z):=fun k=>rfl
 clear h S U;go_in;go_wp2
 go_loop [3,11] (fun sz i=>∃ k:Nat,i=.int .i64 k/\k<=m.size/\sz=.int .i64 ((catO m k).size:Int)) (fun _ i=>m.size - (intOf i).toNat)
 case atStart=>exact ⟨0,rfl,vaj _,rfl⟩
 case round =>
  obtain ⟨k,rfl,I,rfl⟩:=hrel;have J:=B.out k I;by_cases g:k < m.size
  .have kz:(k:Int) < (m.size:Int):=by omega
   have K:(catO m (k + 1)).size=(catO m k).size + m[k]!.z.size:=by rw [E.out,vdd]
   have a:=B.out (k + 1) g;rw [K] at a;have l:=hI K;obtain ⟨b,O,rfl,G,f⟩:=P.out.at_ (i:=k) g;have s:=f 0 jo;simp only [vak,vcq,encW,RW.v,vac] at s;obtain ⟨u,z⟩:∃ u,m[k]! = u:=⟨_,rfl⟩
   rw [z] at s a l;obtain ⟨p,R⟩:∃ p,(catO m k).size=p:=⟨_,rfl⟩
   rw [R] at J a l |-
   have e2:decide ((p:Int) + (u.z.size:Int) < 0)=false:=vab jo;clear K z f R;go_wp2;go_round
   case rel=>exact ⟨k + 1,by go_num,by omega,by rw [l.out];go_num⟩
   case measure=>simp [intOf];omega
  have y:decide ((k:Int) < (m.size:Int))=false:=vab jo;obtain rfl:k=m.size:=by omega
  have X:=hI (GrowO_any (catO m m.size).size w jo);go_wp2_with (go_at_call 204;refine X.out.mono ?_;rintro _ w1 ⟨v0,rfl,d,Q⟩;have Z:=hI d;have C:=hI Q;clear d Q)
  go_loopw [6,27] (fun v i wr=>∃ (k:Nat),i=.int .i64 k/\k<=m.size/\wr.ownsRow w.heap.size 53 15 v (catO m k).size (flatK qde 15 (catO m k)).toList/\Hid (Below w.heap.size w wr)) (fun _ i _=>m.size - (intOf i).toNat)
  case atStart=>exact ⟨0,rfl,vaj _,by show World.ownsRow _ _ _ _ _ 0 (flatK qde 15 #[]).toList;rw [qdl];exact Z.out,C⟩
  case round =>
   obtain ⟨k,rfl,I,d,r⟩:=hrel;have t:=B.out k I;have F:=r.out.size;by_cases g:k < m.size
   .have kz:(k:Int) < (m.size:Int):=by omega
    have a:=B.out (k + 1) g;rw [E.out,vdd] at a;obtain ⟨b,O,rfl,G,f⟩:=(P.out.below r.out).at_ (i:=k) g;have s:=f 0 jo;have j:=hI ((Y.out k g).below r.out);have n:=hI (E.out k);obtain ⟨u,z⟩:∃ u,m[k]! = u:=⟨_,rfl⟩
    rw [z] at s j n a;clear z f;simp only [vak,vcq,encW,RW.v,vac] at s;obtain ⟨x,T⟩:∃ x,catO m k=x:=⟨_,rfl⟩
    rw [T] at d n a t;clear T;go_wp2_with (at_builtin;refine qcq encOU_1 qrm jd rfl _ _ 41 rfl w.heap.size 53 j0 (.agg zerO) 160 underlying41 H L M N rfl _ x rfl d wr.heap.size u.A u.c u.z rfl j.out.rd j.out.no jo jd jo ?_;intro v' w3 q o _;have D:=hI (r.out.grown o F (qnd d)));go_roundw
    case rel=>exact ⟨k + 1,by go_num,by omega,by rw [n.out];exact q,D⟩
    case measure=>simp [intOf];omega
   have y:decide ((k:Int) < (m.size:Int))=false:=vab jo;obtain rfl:k=m.size:=by omega
   go_wp2;go_ret;exact ⟨_,rfl,d,r.out⟩
theorem qzc (A:Option Addr) (c:Nat) (m:Array (RW OU)) (w:World) (h:RdK encW 1 w.heap.size w A m) (d:∀ i,i < m.size->RdN qde 15 w m[i]!) (o:m.size<=1000) (f:∀ k,k<=m.size->(catO m k).size<=100000) :
 Calls prog 54 #[.slice A m.size c] w fun e g=>∃ v,e=.returned v/\g.ownsRow w.heap.size 53 15 v (catO m m.size).size (flatK qde 15 (catO m m.size)).toList/\Below w.heap.size w g:=by
 have l:=hI (que A c m w h d o f);clear h d f;go_in;go_wp2_with (go_at_call 137;refine l.out.mono ?_;rintro _ p ⟨v,rfl,a,b⟩;have n:=hI a;have j:=hI b;clear a b);go_ret;exact ⟨_,rfl,n.out,j.out⟩
def OwnJ (B:Nat) (w:World) (x:RW Int):Prop:=∀ W,(∀ j,B<=j->j < w.heap.size->W.heap[j]?=w.heap[j]?)->w.heap.size<=W.heap.size->RdJ W x
theorem quf {w:World} {B a:Nat} {e:TypeId} {v:Value} {l:List Int} (h:w.ownsRow a e 1 v l.length (l.map (Value.int .i64))) (j:B<=a):∃ x:RW Int,v=x.v/\x.z=l.toArray/\OwnJ B w x:=by
 obtain ⟨x,d,f,_⟩:=qcf h;refine ⟨x,d,f,fun W k p=>?_⟩;obtain ⟨y,g,i,m⟩:=qcf (qdz h j k)
 have:x=y:=by
  obtain ⟨q,r,n⟩:=x;obtain ⟨s,t,o⟩:=y;have b:n=o:=f.trans i.symm;have c:=d.symm.trans g;unfold RW.v at c;injection c with q1 q2 q3
  subst b q1 q3;rfl
 rw [this];exact m
theorem qop (d:Array Int) (p:Nat) (t:Int):(d.toList.map (Value.int .i64)).set p (.int .i64 (max d[p]! t))=(qec d p t).toList.map (Value.int .i64):=by
 unfold qec;rw [Array.toList_setIfInBounds,List.map_set]
theorem front_low {d:Array Int} {p:Nat} {t:Int} (c:p < d.size) (h:t<=d[p]!):qec d p t=d:=by
 refine qrr (by rw [qcu]) fun j b=>?_
 rw [qcu] at b;rw [qri d p t b];by_cases a:j=p
 .subst a;rw [vam rfl];omega
 rw [vao a]
theorem map_at (d:Array Int) {p:Nat} (a:p < d.size):(d.toList.map (Value.int .i64))[p]?=some (.int .i64 d[p]!):=by
 rw [vdc,vbh,vbe a,vae d p a];rfl
theorem qps {n:Int} (h:qgj n≠0):3<=n/\n<=9:=by
 unfold qgj at h;by_cases a:n < 3\/9 < n
 .rw [vam a] at h;exact absurd rfl h
 omega
theorem qmh (A:Option Addr) (c n p:Nat) (d:Array Int) (t:Int) (w:World) (h:RdI_R w.heap.size w A d) (z:qas d n=0) (Q:p < n) (V:0<=t/\t<=1000000) :
 Calls prog 32 #[.slice A d.size c,.int .i64 n,.int .i64 ((p:Int) + 1),.int .i64 t] w fun e k=>(∃ x:RW Int,e=.returned (.tuple #[x.v,.int .i64 0])/\x.z=qec d p t/\OwnJ w.heap.size k x)/\Below w.heap.size w k:=by
 have U:d.size=n:=by have:=(qay.1 z).2.1;omega
 have P:=qps (qay.1 z).1;have D:Hid (Calls prog 79 #[.slice A d.size c,.int .i64 n] w fun e k=>e=.returned (.int .i64 0)/\Below w.heap.size w k):=by
  have:=qfs A c d n _ w h jo
  rwa [z] at this
 have B:Hid (∀ W,Calls prog 78 #[.int .i64 ((p:Int) + 1),.int .i64 n] W fun e k=>e=.returned (.bool true)/\W=k):=fun W=>by
  have:=qig ((p:Int) + 1) n W
  rwa [vah (by omega:1<=(p:Int) + 1/\(p:Int) + 1<=(n:Int))] at this
 obtain ⟨b,m,rfl,K,f⟩:=h jo;have E:Hid (∀ W,Below w.heap.size w W->Calls prog 82 #[.slice (some ⟨b,m,none⟩) d.size c] W fun e k=>∃ g i,e=.returned (.slice (some ⟨g,0,none⟩) d.size i)/\k.ownsRow W.heap.size 3 1 (.slice (some ⟨g,0,none⟩) d.size i) d.size (d.toList.map (Value.int .i64))/\Below W.heap.size W k):=fun W F=>by
  refine (slices_Clone_int b m d.size c d.toList W js jo (fun j O=>?_)).mono fun e k ⟨v',M,o,_,G⟩=>?_
  .rw [(F.cell (p:=⟨b,m + j,none⟩) K).trans (f j (by simpa using O)),qfb]
  rw [vaz js] at o;obtain ⟨g,i,rfl,_,_⟩:=qif o jo;exact ⟨g,i,M,o,G⟩
 have I:=hI (map_at d (p:=p) jo);have r:=hI (qop d p t);have s:Hid ((qec d p t).toList.length=d.size):=by show _=_;simp [qcu]
 obtain ⟨J,y⟩:∃ x,d[p]! = x:=⟨_,rfl⟩
 rw [y] at I r;have e1:decide (t < 0)=false:=vab jo;have e2:decide (1000000 < t)=false:=vab jo;have X:IntKind.i64.wrap (p:Int)=(p:Int):=vcu _ jo;have S:(p:Int) < (d.size:Int):=by omega
 have R:p < d.size:=by omega
 clear h z Q V f y K U;go_in
 go_wp2_with (first
  | (go_at_call 79;refine D.out.mono ?_;rintro _ w1 ⟨rfl,u⟩;have l:=hI u;clear u)
  | (go_at_call 78;refine (B.out _).mono ?_;rintro _ _ ⟨rfl,rfl⟩)
  | (go_at_call 82;refine (E.out _ l.out).mono ?_;rintro _ L ⟨g,i,rfl,a,v⟩;have C:=hI (qaa l.out v);have H:=hI (qdj a l.out.size);have Z:L.cell? ⟨g,p,none⟩=some (.int .i64 J):=(a.cellAt p jo).trans I.out;have f0:L.frozen? ⟨g,p,none⟩=false:=a.frozenAt p;clear a v))
 go_ret2;have o:=(H.out.stored p (.int .i64 (max J t))).1;rw [r.out,<-s.out] at o;obtain ⟨x,e,Y,T⟩:=quf o (vaa _);have N:w.heap.size<=g:=by
  obtain ⟨_,⟨q,_⟩ | ⟨g',_,_,q,hB,_⟩⟩:=H.out
  .cases q
  injection q with q
  injection q with q
  injection q with q
  omega
 refine ⟨⟨x,?_,by rw [Y],T⟩,C.out.setCell (p:=⟨g,p,none⟩) N _⟩;rw [<-e,s.out];rfl
