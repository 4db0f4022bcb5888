/- Texts that the law leans on. -/
import Derived.Test.YtdcfffhoajmafaaGreatQRangesM
import Derived.Test.YtdcfffhoajmafaaGreatQSortJ
set_option maxRecDepth 100000
set_option maxHeartbeats 8000000
namespace Go.Proofs.YtdcfffhoajmafaaGreat
open Go.RowKit Go.Sort Go.Lib Go.Proofs.Tryz
structure KN where
 base:Int
 rs:Array (Int×Int)
 ats:Array (Int×Int)
instance:Inhabited KN:=⟨⟨0,#[],#[]⟩⟩
def okI (id:Int):Bool:=decide (10<=id/\id<=999999/\id % 10≠0)
def qbr (hi:Int):Int->List (Int×Int)->Bool
 | _,[]=>true
 | lo,x :: l=>decide (lo < x.1/\x.1<=hi) && okI x.2 && qbr hi x.1 l
theorem qbs (hi:Int):∀ (l:List (Int×Int)) (d:Int),qbr hi d l=true↔l.Pairwise (fun x y=>x.1 < y.1)/\∀ x ∈ l,d < x.1/\x.1<=hi/\okI x.2=true
 | [],d=>by simp [qbr]
 | x :: l,d=>by
   rw [qbr,vav,vav,vap,qbs hi l x.1,vbu]
   constructor
   .rintro ⟨⟨⟨b,e⟩,c⟩,h,f⟩
    refine ⟨⟨fun y a=>(f y a).1,h⟩,fun y a=>?_⟩;rcases vcb.1 a with rfl | a
    .exact ⟨b,e,c⟩
    exact ⟨Int.lt_trans b (f y a).1,(f y a).2⟩
   rintro ⟨⟨b,e⟩,c⟩;have g:=c x js;exact ⟨⟨⟨g.1,g.2.1⟩,g.2.2⟩,e,fun y a=>⟨b y a,(c y (by simp [a])).2⟩⟩
def chkB (k:KN):Bool:=decide (0<=k.base/\k.base<=1000000) && (qam k.rs == 0) && decide (k.ats.size<=400) && qbr 1000000 k.base k.ats.toList && decide (0 < k.rs.size->k.base + 1 < k.rs[0]!.1) && !(k.ats.toList.any fun a=>inR k.rs a.1)
def chkE (k:KN):Int:=if chkB k=true then 0 else 2
structure ChkP (k:KN):Prop where
 b0:0<=k.base
 b1:k.base<=1000000
 rs:qam k.rs=0
 sz:k.ats.size<=400
 up:qbr 1000000 k.base k.ats.toList=true
 fst:0 < k.rs.size->k.base + 1 < k.rs[0]!.1
 out:∀ a ∈ k.ats.toList,inR k.rs a.1=false
theorem qco {k:KN}:chkB k=true↔ChkP k:=by
 unfold chkB;simp only [vav,vap,vef,vdv,vdu,vdr]
 constructor
 .rintro ⟨⟨⟨⟨⟨⟨a,b⟩,c⟩,d⟩,e⟩,f⟩,g⟩
  exact ⟨a,b,c,d,e,f,g⟩
 rintro ⟨a,b,c,d,e,f,g⟩;exact ⟨⟨⟨⟨⟨⟨a,b⟩,c⟩,d⟩,e⟩,f⟩,g⟩
def hasK (k:KN) (t:Int):Bool:=chkB k && (decide (1<=t/\t<=k.base) || qbg k.rs t)
theorem qwl {k:KN} (h:ChkP k) (t:Int):hasK k t=true↔(1<=t/\t<=k.base)\/inR k.rs t=true:=by
 unfold hasK qbg;rw [qco.2 h,h.rs];simp
def qbn (l:List (Int×Int)):List Int:=l.map (·.1)
def mrgK (a b:Array (Int×Int)):Array (Int×Int):=srtA (a.toList ++ b.toList.filter fun x=>!(qbn a.toList).contains x.1).toArray
theorem srtA_mem {d:Array (Int×Int)} {x:Int×Int}:x ∈ (srtA d).toList↔x ∈ d.toList:=by
 unfold srtA;exact (List.mergeSort_perm d.toList _).mem_iff
theorem qjo {a b:Array (Int×Int)} {x:Int×Int}:x ∈ (mrgK a b).toList↔x ∈ a.toList\/(x ∈ b.toList/\x.1 ∉ qbn a.toList):=by
 unfold mrgK;rw [srtA_mem];simp
theorem qmi (a b:Array (Int×Int)):(mrgK a b).size<=a.size + b.size:=by
 unfold mrgK;rw [qid]
 have:=vcf (fun x:Int×Int=>!(qbn a.toList).contains x.1) b.toList
 simp at this |-
 omega
theorem qze {a b:Array (Int×Int)} {t:Int}:t ∈ qbn (mrgK a b).toList↔t ∈ qbn a.toList\/t ∈ qbn b.toList:=by
 unfold qbn;simp only [vcp]
 constructor
 .rintro ⟨x,c,rfl⟩
  rcases qjo.1 c with h | h
  .exact Or.inl ⟨x,h,rfl⟩
  exact Or.inr ⟨x,h.1,rfl⟩
 rintro (⟨x,c,rfl⟩ | ⟨x,c,rfl⟩)
 .exact ⟨x,qjo.2 (Or.inl c),rfl⟩
 by_cases h:x.1 ∈ qbn a.toList
 .obtain ⟨y,d,e⟩:=vcp.1 h
  exact ⟨y,qjo.2 (Or.inl d),e⟩
 exact ⟨x,qjo.2 (Or.inr ⟨c,h⟩),rfl⟩
theorem srtA_up {d:Array (Int×Int)} (h:(qbn d.toList).Nodup):(srtA d).toList.Pairwise (fun x y=>x.1 < y.1):=by
 have o:(srtA d).toList.Pairwise (fun x y=>(!qaf y x)=true):=by
  unfold srtA;refine List.pairwise_mergeSort (fun a b c e g=>?_) (fun a b=>?_) d.toList
  .obtain ⟨i,j⟩:=a;obtain ⟨k,l⟩:=b;obtain ⟨p,q⟩:=c
   unfold qaf at *;simp at *;omega
  obtain ⟨i,j⟩:=a;obtain ⟨k,l⟩:=b;unfold qaf;simp;omega
 have m:(qbn (srtA d).toList).Nodup:=by
  have n:(srtA d).toList.Perm d.toList:=by unfold srtA;exact List.mergeSort_perm d.toList _
  exact ((n.map (fun x:Int×Int=>x.1)).nodup_iff).2 h
 have f:(srtA d).toList.Pairwise (fun x y=>x.1≠y.1):=by
  have:=m
  unfold qbn at this;exact (vdt.1 this)
 refine (o.and f).imp ?_;rintro ⟨r,s⟩ ⟨t,u⟩ ⟨e,g⟩;unfold qaf at e;simp at e g |-
 omega
theorem qmj {l:List (Int×Int)} (h:l.Pairwise (fun x y=>x.1 < y.1)):(qbn l).Nodup:=by
 unfold qbn;exact vdt.2 (h.imp (fun h=>Int.ne_of_lt h))
theorem up_inj:∀ {l:List (Int×Int)},l.Pairwise (fun x y=>x.1 < y.1)->∀ {x y:Int×Int},x ∈ l->y ∈ l->x.1=y.1->x=y
 | [],_,_,_,hx,_,_=>by cases hx
 | z :: l,h,x,y,hx,hy,e=>by
   obtain ⟨f,g⟩:=vbu.1 h;rcases vcb.1 hx with d | b
   .rcases vcb.1 hy with c | a
    .rw [d,c]
    have:=f y a;rw [d] at e;omega
   rcases vcb.1 hy with c | a
   .have:=f x b;rw [c] at e;omega
   exact up_inj g b a e
theorem mrgK_up {a b:Array (Int×Int)} (d:a.toList.Pairwise (fun x y=>x.1 < y.1)) (f:b.toList.Pairwise (fun x y=>x.1 < y.1)):(mrgK a b).toList.Pairwise (fun x y=>x.1 < y.1):=by
 unfold mrgK;refine srtA_up ?_;show (qbn (a.toList ++ _)).Nodup;unfold qbn;rw [vdn];refine List.nodup_append.2 ⟨qmj d,qmj (f.filter _),fun x h y i e=>?_⟩;obtain ⟨z,j,rfl⟩:=vcp.1 i
 have:=(vck.1 j).2
 simp at this;obtain ⟨u,g,c⟩:=vcp.1 h
 exact this u.2 (by
   have:(u.1,u.2)=(z.1,u.2):=by rw [c,e]
   rw [<-this];simpa using g)
theorem srtA_self {d:Array (Int×Int)} (h:d.toList.Pairwise (fun x y=>x.1 < y.1)):srtA d=d:=by
 unfold srtA;rw [List.mergeSort_of_pairwise];refine h.imp ?_;rintro ⟨a,b⟩ ⟨c,e⟩ h;unfold qaf;simp at h |-
 omega
def betL (lo hi:Int):Int->List Int->List (Int×Int)
 | at',[]=>[(at',hi)]
 | at',t :: l=>if lo < t/\t<=hi then (at',t - 1) :: betL lo hi (t + 1) l else betL lo hi at' l
theorem qpt (lo hi:Int):∀ (l:List Int) (a:Int),(betL lo hi a l).length<=l.length + 1
 | [],_=>by simp [betL]
 | t :: l,a=>by
   rw [betL];have b:=qpt lo hi l (t + 1);have c:=qpt lo hi l a;split <;> simp <;> omega
theorem qug (lo hi n:Int):∀ (l:List Int) (a:Int),l.Pairwise (· < ·)->lo < a->(∀ t ∈ l,lo < t->t<=hi->a<=t)->((betL lo hi a l).any (qcg n)=true↔(a<=n/\n<=hi)/\n ∉ l)
 | [],a,_,_,_=>by rw [betL];simp [qcg]
 | t :: l,a,hp,ha,hb=>by
   obtain ⟨g,i⟩:=vbu.1 hp;rw [betL];split
   .rename_i e
    have j:=hb t js e.1 e.2;rw [any_cons,qug lo hi n l (t + 1) i jo (fun u f _ _=>by have:=g u f;omega),vcb,not_or]
    constructor
    .rintro (h | h)
     .refine ⟨⟨h.1,?_⟩,?_,fun k=>?_⟩
      .have:=h.2;simp at this;omega
      .have:=h.2;simp at this;omega
      have:=g n k;have:=h.2;simp at this;omega
     exact ⟨⟨by omega,h.1.2⟩,by omega,h.2⟩
    rintro ⟨b,c,d⟩;by_cases m:n < t
    .exact Or.inl ⟨b.1,by simp;omega⟩
    exact Or.inr ⟨⟨by omega,b.2⟩,d⟩
   rename_i e;rw [qug lo hi n l a i ha (fun u f=>hb u (by simp [f])),vcb,not_or]
   constructor
   .rintro ⟨b,c⟩
    exact ⟨b,by omega,c⟩
   rintro ⟨b,c,d⟩;exact ⟨b,d⟩
theorem quh (lo hi:Int):∀ (l:List Int) (b:Int),∀ x ∈ betL lo hi b l,x.2<=hi
 | [],b,x,a=>by rw [betL] at a;simp at a;subst a;exact vdo _
 | t :: l,b,x,a=>by
   rw [betL] at a;split at a
   .rename_i h
    rcases vcb.1 a with rfl | a
    .show t - 1<=hi;omega
    exact quh lo hi l _ x a
   exact quh lo hi l _ x a
def qui (base lo hi:Int) (told:List Int):Array (Int×Int):=((betL lo hi (lo + 1) told).map fun r=>(max r.1 (base + 1),r.2)).toArray
theorem moreK_in (b lo hi n:Int) (a:List Int) (j:a.Pairwise (· < ·)):inR (qui b lo hi a) n=true↔(max lo b < n/\n<=hi)/\n ∉ a:=by
 have e:inR (qui b lo hi a) n=true↔b < n/\(betL lo hi (lo + 1) a).any (qcg n)=true:=by
  unfold qui inR;simp only [List.any_map,vca,Function.comp,qcp]
  constructor
  .rintro ⟨x,g,d,c⟩
   exact ⟨by omega,x,g,by omega,c⟩
  rintro ⟨i,x,g,d,c⟩;exact ⟨x,g,by omega,c⟩
 rw [e,qug lo hi n a (lo + 1) j jo (fun t _ h _=>by omega)]
 constructor
 .rintro ⟨i,⟨d,c⟩,f⟩
  exact ⟨⟨by omega,c⟩,f⟩
 rintro ⟨⟨d,c⟩,f⟩;exact ⟨by omega,⟨by omega,c⟩,f⟩
def pK (k:KN) (lo hi:Int) (atts:Array (Int×Int)) (n:Int):Bool:=inR k.rs n || (decide (max lo k.base < n/\n<=hi) && !(qbn atts.toList).contains n && !(qbn k.ats.toList).contains n)
theorem qlc {k:KN} {lo hi:Int} {a:Array (Int×Int)} {n:Int}:pK k lo hi a n=true↔inR k.rs n=true\/((max lo k.base < n/\n<=hi)/\n ∉ qbn a.toList/\n ∉ qbn k.ats.toList):=by
 unfold pK;simp [and_assoc]
def qix (k:KN) (atts:Array (Int×Int)):Array (Int×Int):=(atts.toList.filter fun a=>!(decide (a.1<=k.base) || inR k.rs a.1)).toArray
def allK (k:KN) (atts:Array (Int×Int)):Array (Int×Int):=mrgK k.ats (qix k atts)
theorem fresh_mem {k:KN} {a:Array (Int×Int)} {x:Int×Int}:x ∈ (qix k a).toList↔x ∈ a.toList/\k.base < x.1/\inR k.rs x.1=false:=by
 unfold qix;simp
theorem qro (k:KN) (b:Array (Int×Int)):(allK k b).size<=k.ats.size + b.size:=by
 have c:=qmi k.ats (qix k b);have d:(qix k b).size<=b.size:=by
  unfold qix
  have:=vcf (fun a:Int×Int=>!(decide (a.1<=k.base) || inR k.rs a.1)) b.toList
  simpa using this
 unfold allK;omega
theorem more_p {k:KN} {lo hi:Int} {a:Array (Int×Int)} (b:ChkP k) (f:hi<=1000000) (c:qbr hi lo a.toList=true) (n:Int) :
 pAdd k.rs (qui k.base lo hi (qbn (mrgK a k.ats).toList)) n=pK k lo hi a n:=by
 have e:=mrgK_up ((qbs _ _ _).1 c).1 ((qbs _ _ _).1 b.up).1;have d:(qbn (mrgK a k.ats).toList).Pairwise (· < ·):=vdt.2 e;rw [vbd,qlc];unfold pAdd;rw [vav,vcd,qhe,moreK_in _ _ _ _ _ d,qze,not_or];have g:=b.b0
 constructor
 .rintro ⟨_,h⟩
  exact h
 intro h;refine ⟨?_,h⟩;rcases h with h | h
 .exact qib (NL.of_set b.rs) h
 omega
def cutL (b:Int):List (Int×Int)->List (Int×Int)
 | []=>[]
 | x :: l=>if x.2<=b then cutL b l else (max x.1 (b + 1),x.2) :: l
theorem qwm (b:Int):∀ l,(cutL b l).length<=l.length
 | []=>vaa _
 | x :: l=>by
   rw [cutL]
   have:=qwm b l
   split
   .simp;omega
   simp
theorem cutL_ok {b:Int} (i:0<=b):∀ {l:List (Int×Int)},NL l->NL (cutL b l)/\∀ n,(cutL b l).any (qcg n)=(l.any (qcg n) && decide (b < n))
 | [],_=>⟨⟨by simp [cutL],by simp [cutL]⟩,by simp [cutL]⟩
 | x :: l,h=>by
   rw [cutL];have k:=h.1 x js;have e:=(vbu.1 h.2).1;split
   .rename_i j
    obtain ⟨f,g⟩:=cutL_ok i h.tail;refine ⟨f,fun n=>?_⟩;rw [g n,vbd,vav,vav,any_cons,vap]
    constructor
    .rintro ⟨a,c⟩
     exact ⟨Or.inr a,c⟩
    rintro ⟨a | a,c⟩
    .omega
    exact ⟨a,c⟩
   rename_i j;refine ⟨⟨fun y d=>?_,vbu.2 ⟨fun y d=>e y d,(vbu.1 h.2).2⟩⟩,fun n=>?_⟩
   .rcases vcb.1 d with rfl | d
    .show 1<=max x.1 (b + 1)/\max x.1 (b + 1)<=x.2/\x.2<=1000000
     omega
    exact h.1 y (by simp [d])
   rw [vbd,vav,any_cons,any_cons,vap]
   constructor
   .rintro (a | a)
    .have c:max x.1 (b + 1)<=n:=a.1
     exact ⟨Or.inl ⟨by omega,a.2⟩,by omega⟩
    have:=h.gt a
    exact ⟨Or.inr a,by omega⟩
   rintro ⟨a | a,c⟩
   .exact Or.inl ⟨show max x.1 (b + 1)<=n by omega,a.2⟩
   exact Or.inr a
theorem qlp {d out:Array (Int×Int)} {b:Int} (c:qam d=0) (o:0<=b) (h:LessE d (1,b) out):IsN (fun n=>inR d n && decide (b < n)) out/\out.size<=d.size:=by
 obtain ⟨s,j,e⟩:=h.1 c;have i:=NL.of_set c;have g:=cutL_ok o i;have k:IsN (fun n=>inR d n && decide (b < n)) (cutL b d.toList).toArray:=⟨g.1,fun n=>g.2 n⟩
 have f:IsN (fun n=>inR d n && decide (b < n)) s:=j.congr fun n=>by
  unfold qmz;by_cases a:inR d n=true
  .have:=qib i a
   rw [a,vbd];simp [qcg];omega
  rw [vdr] at a;rw [a];rfl
 have l:s=(cutL b d.toList).toArray:=f.uniq k;have m:s.size<=d.size:=by
  rw [l]
  have:=qwm b d.toList
  simpa using this
 have p:=(qcy c).1;rw [vam jo] at e;subst e;exact ⟨f,m⟩
structure FormR (l:Array (Int×Int)) (base:Int) (ats:Array (Int×Int)) (r:KN):Prop where
 b:r.base=preE l base
 rs:LessE l (1,r.base) r.rs
 at':r.ats=ats
theorem FormR.uniq {l:Array (Int×Int)} {a:Int} {ats:Array (Int×Int)} {r s:KN} (h:FormR l a ats r) (k:FormR l a ats s):r=s:=by
 obtain ⟨f,g,e⟩:=r;obtain ⟨j,m,i⟩:=s;have b:f=j:=h.b.trans k.b.symm;subst b;have c:g=m:=h.rs.uniq k.rs;have d:e=i:=h.at'.trans k.at'.symm;rw [c,d]
structure FormO (l:Array (Int×Int)) (base:Int) (ats:Array (Int×Int)) (r:KN):Prop where
 chk:ChkP r
 up:base<=r.base
 sz:r.rs.size<=l.size
 eat:r.ats=ats
 has:∀ n,hasK r n=true↔(1<=n/\n<=base)\/inR l n=true
 gt:∀ a ∈ ats.toList,r.base < a.1
 out:∀ n,inR r.rs n=(inR l n && decide (r.base < n))
 nx:inR l (r.base + 1)=false
theorem FormR.ok {l:Array (Int×Int)} {b:Int} {ats:Array (Int×Int)} {r:KN} (h:FormR l b ats r) (m:qam l=0) (E:0<=b) (F:b<=1000000) (B:ats.size<=400) (A:qbr 1000000 b ats.toList=true) (t:∀ a ∈ ats.toList,inR l a.1=false):FormO l b ats r:=by
 obtain ⟨v,C,p,q⟩:=qqk m b;rw [<-h.b] at v C p q;have z:=NL.of_set m;obtain ⟨y,D⟩:=qlp m jo h.rs;have G:=(qcy m).1;have e:qam r.rs=0:=y.set jo;have o:=(qbs _ _ _).1 A;have k:∀ a ∈ ats.toList,r.base < a.1:=fun a i=>by
  have d:=t a i;have g:=o.2 a i;by_cases f:r.base < a.1
  .exact f
  have:=p a.1 g.1 jo
  rw [d] at this;cases this
 have c:∀ n,inR r.rs n=(inR l n && decide (r.base < n)):=y.2;have j:ChkP r:=by
  refine ⟨by omega,by omega,e,by rw [h.at'];exact B,?_,fun s=>?_,fun a i=>?_⟩
  .rw [h.at']
   exact (qbs _ _ _).2 ⟨o.1,fun x u=>⟨k x u,(o.2 x u).2⟩⟩
  .have d:=zak e s
   have g:inR r.rs r.rs[0]!.1=true:=qqm s (by unfold qcg;simp;omega);rw [c,vav,vap] at g;by_cases f:r.rs[0]!.1=r.base + 1
   .rw [f,q] at g
    cases g.1
   omega
  rw [h.at'] at i;rw [c,t a i];rfl
 refine ⟨j,v,D,h.at',fun n=>?_,k,c,q⟩;rw [qwl j,c,vav,vap]
 constructor
 .rintro (d | d)
  .by_cases f:n<=b
   .exact Or.inl ⟨d.1,f⟩
   exact Or.inr (p n jo d.2)
  exact Or.inr d.1
 rintro (d | d)
 .exact Or.inl ⟨d.1,by omega⟩
 by_cases f:r.base < n
 .exact Or.inr ⟨d,f⟩
 exact Or.inl ⟨(qib z d).1,by omega⟩
def AddR (k:KN) (lo hi:Int) (atts:Array (Int×Int)) (r:KN):Prop:=∃ l,IsN (pK k lo hi atts) l/\l.size<=1000/\FormR l k.base (allK k atts) r
theorem AddR.uniq {k:KN} {lo hi:Int} {a:Array (Int×Int)} {r s:KN} (h:AddR k lo hi a r) (g:AddR k lo hi a s):r=s:=by
 obtain ⟨l,d,_,e⟩:=h;obtain ⟨m,b,_,c⟩:=g
 have:=d.uniq b
 subst this;exact e.uniq c
structure AddA (k:KN) (lo hi:Int) (atts:Array (Int×Int)):Prop where
 chk:ChkP k
 lo0:0<=lo
 le:lo<=hi
 hi1:hi<=1000000
 up:qbr hi lo atts.toList=true
def addB (k:KN) (lo hi:Int) (atts:Array (Int×Int)):Bool:=chkB k && decide (0<=lo/\lo<=hi/\hi<=1000000) && qbr hi lo atts.toList
theorem qkk {k:KN} {lo hi:Int} {a:Array (Int×Int)}:addB k lo hi a=true↔AddA k lo hi a:=by
 unfold addB;rw [vav,vav,vap,qco]
 constructor
 .rintro ⟨⟨b,c,d,e⟩,f⟩
  exact ⟨b,c,d,e,f⟩
 rintro ⟨b,c,d,e,f⟩;exact ⟨⟨b,c,d,e⟩,f⟩
theorem qjp {k:KN} {a:Array (Int×Int)} {x:Int×Int}:x ∈ (allK k a).toList↔x ∈ k.ats.toList\/(x ∈ a.toList/\k.base < x.1/\inR k.rs x.1=false/\x.1 ∉ qbn k.ats.toList):=by
 unfold allK;rw [qjo,fresh_mem];simp [and_assoc]
theorem allK_up {k:KN} {lo hi:Int} {a:Array (Int×Int)} (h:AddA k lo hi a):qbr 1000000 k.base (allK k a).toList=true:=by
 have c:=(qbs _ _ _).1 h.chk.up;have d:=(qbs _ _ _).1 h.up;have f:=h.hi1;refine (qbs _ _ _).2 ⟨?_,fun x b=>?_⟩
 .unfold allK
  refine mrgK_up c.1 ?_;show (List.filter _ _).Pairwise _;exact d.1.filter _
 rcases qjp.1 b with b | ⟨b,e,_,_⟩
 .exact c.2 x b
 have:=d.2 x b
 exact ⟨e,by omega,this.2.2⟩
theorem allK_out {k:KN} {lo hi:Int} {b:Array (Int×Int)} (h:AddA k lo hi b):∀ a ∈ (allK k b).toList,pK k lo hi b a.1=false:=fun a e=>by
 rw [vbi,Ne,qlc];rintro (d | ⟨_,d,f⟩)
 .rcases qjp.1 e with c | ⟨_,_,c,_⟩
  .rw [h.chk.out a c] at d;cases d
  rw [c] at d;cases d
 rcases qjp.1 e with c | ⟨c,_⟩
 .exact f (vcp.2 ⟨a,c,rfl⟩)
 exact d (vcp.2 ⟨a,c,rfl⟩)
theorem AddR.ok {k r:KN} {lo hi:Int} {b:Array (Int×Int)} (h:AddA k lo hi b) (g:AddR k lo hi b r) (i:k.ats.size + b.size<=400):∃ l,IsN (pK k lo hi b) l/\l.size<=1000/\FormO l k.base (allK k b) r:=by
 obtain ⟨l,c,d,e⟩:=g
 have:=qro k b
 exact ⟨l,c,d,e.ok (c.set d) h.chk.b0 h.chk.b1 jo (allK_up h) (fun a f=>(c.2 a.1).trans (allK_out h a f))⟩
def qds (ids:Array Int) (a:Int×Int):Bool:=ids.toList.contains a.2
def qfj (k:KN) (ids:Array Int):Array (Int×Int):=(k.ats.toList.filter fun a=>!qds ids a).toArray
def pS (k:KN) (ids:Array Int) (n:Int):Bool:=inR k.rs n || k.ats.toList.any fun a=>qds ids a && (a.1 == n)
def qjq (k:KN) (ids:Array Int):Array (Int×Int):=((k.ats.toList.filter (qds ids)).map fun a=>(a.1,a.1)).toArray
def SetR (k:KN) (ids:Array Int) (r:KN):Prop:=∃ l,IsN (pS k ids) l/\l.size<=1000/\FormR l k.base (qfj k ids) r
theorem SetR.uniq {k:KN} {ids:Array Int} {r s:KN} (h:SetR k ids r) (g:SetR k ids s):r=s:=by
 obtain ⟨l,c,_,d⟩:=h;obtain ⟨m,a,_,b⟩:=g
 have:=c.uniq a
 subst this;exact d.uniq b
theorem qld {k:KN} {ids:Array Int} {n:Int}:pS k ids n=true↔inR k.rs n=true\/∃ a ∈ k.ats.toList,a.2 ∈ ids.toList/\a.1=n:=by
 unfold pS qds;simp only [vcd,vca,vav,vct,vef]
theorem setl_p {k:KN} {ids:Array Int} (c:ChkP k) (n:Int):pAdd k.rs (qjq k ids) n=pS k ids n:=by
 have g:=(qbs _ _ _).1 c.up;have l:=c.b0;have e:inR (qjq k ids) n=true↔∃ a ∈ k.ats.toList,a.2 ∈ ids.toList/\a.1=n:=by
  unfold qjq inR qds;simp only [List.any_map,vca,Function.comp,qcp,vck,vct]
  constructor
  .rintro ⟨x,⟨d,b⟩,i,j⟩
   exact ⟨x,d,b,by omega⟩
  rintro ⟨x,d,b,rfl⟩;exact ⟨x,⟨d,b⟩,vdo _,vdo _⟩
 rw [vbd,qld,<-e];unfold pAdd;rw [vav,vcd,qhe];refine ⟨fun h=>h.2,fun h=>⟨?_,h⟩⟩;rcases h with h | h
 .exact qib (NL.of_set c.rs) h
 obtain ⟨a,f,_,rfl⟩:=e.1 h
 have:=g.2 a f
 omega
theorem SetR.ok {k r:KN} {ids:Array Int} (h:ChkP k) (q:SetR k ids r):∃ l,IsN (pS k ids) l/\l.size<=1000/\FormO l k.base (qfj k ids) r:=by
 obtain ⟨l,c,i,m⟩:=q;have e:=(qbs _ _ _).1 h.up;have s:(qfj k ids).size<=400:=by
  have b:=vcf (fun a=>!qds ids a) k.ats.toList;have d:=h.sz;unfold qfj;simp at b |-
  omega
 refine ⟨l,c,i,m.ok (c.set i) h.b0 h.b1 s ?_ ?_⟩
 .refine (qbs _ _ _).2 ⟨e.1.filter _,fun x f=>e.2 x (vck.1 f).1⟩
 intro a p;obtain ⟨b,d⟩:=vck.1 (show a ∈ k.ats.toList.filter _ from p);rw [c.2,vbi,Ne,qld];rintro (j | ⟨x,f,n,o⟩)
 .rw [h.out a b] at j;cases j
 have g:x=a:=up_inj e.1 f b o;subst g;simp [qds] at d;exact d (by simpa using n)
theorem qfr {α:Type} [Inhabited α] (d:Array α) (k:Nat) (h:k < d.size):d.toList.drop k=d[k]! :: d.toList.drop (k + 1):=by
 rw [vdp (by simpa using h),vae d k h];rfl
theorem qzf (id:Int):qfi id=if okI id=true then 0 else 31:=by
 unfold qfi okI;by_cases h:id < 10\/999999 < id\/id % 10=0
 .rw [vam h,vao jso]
 rw [vao h,vam jso]
theorem qzg (id:Int):(qfi id != 0) = !okI id:=by rw [qzf];cases okI id <;> rfl
def RiseR (lo hi:Int) (d:Array (Int×Int)) (w:World) (lv iv:Value) (wr:World):Prop:=∃ (k:Nat) (last:Int),iv=.int .i64 (k:Int)/\lv=.int .i64 last/\k<=d.size/\qbr hi lo d.toList=qbr hi last (d.toList.drop k)/\Below w.heap.size w wr
theorem qpu (A:Option Addr) (c:Nat) (d:Array (Int×Int)) (lo hi:Int) (w:World) (h:RdK qae 2 w.heap.size w A d) (L:d.size<=1000000) :
 Calls prog 68 #[.slice A d.size c,.int .i64 lo,.int .i64 hi] w fun e s=>e=.returned (.bool (qbr hi lo d.toList))/\Below w.heap.size w s:=by
 have E:=hI h;clear h;go_in;go_wp2
 go_loopw [7,13] (fun I H wr=>RiseR lo hi d w I H wr) (fun _ i _=>d.size - (intOf i).toNat)
 case atStart=>exact ⟨0,lo,rfl,rfl,vaj _,rfl,vag _ _⟩
 case round =>
  obtain ⟨k,last,rfl,rfl,K,l,z⟩:=hrel;have g:=hI l;have j:=hI z;clear l z;by_cases m:k < d.size
  .have M:(k:Int) < (d.size:Int):=by omega
   obtain ⟨b,J,rfl,G,f⟩:=(E.out.below j.out).at_ m;have u:=f 0 jo;have v:=f 1 jo;have o:=hI (qfr d k m);generalize d[k]! = x at u v o;simp only [vak,qae,vac,vaf] at u v;clear f;have t:=hI (fun W=>qdc x.2 W);have n:=qzg x.2;cases a:okI x.2
   .rw [a] at n
    have p:Hid (qbr hi lo d.toList=false):=by show _=_;rw [g.out,o.out];simp [qbr,a]
    clear a;go_wp2_with (go_at_call 130;refine (t.out _).mono ?_;rintro e s ⟨rfl,rfl⟩)
    all_goals
     go_ret;exact ⟨qad (by rw [p.out]),qab j.out _⟩
   rw [a] at n;by_cases q:last < x.1/\x.1<=hi
   .have r:decide (x.1<=last)=false:=by simp;omega
    have y:decide (hi < x.1)=false:=by simp;omega
    have D:Hid (qbr hi lo d.toList=qbr hi x.1 (d.toList.drop (k + 1))):=by show _=_;rw [g.out,o.out];simp [qbr,a,q]
    clear a q;go_wp2_with (go_at_call 130;refine (t.out _).mono ?_;rintro e s ⟨rfl,rfl⟩);go_roundw
    case rel=>exact ⟨k + 1,x.1,by go_num,rfl,by omega,D.out,qab j.out _⟩
    case measure=>simp [intOf];omega
   have p:Hid (qbr hi lo d.toList=false):=by show _=_;rw [g.out,o.out];simp [qbr];intro r y;omega
   clear a;by_cases r:x.1<=last
   .clear q
    go_wp2;go_ret;exact ⟨qad (by rw [p.out]),qab j.out _⟩
   have y:hi < x.1:=by omega
   have F:decide (x.1<=last)=false:=by simp;omega
   clear q r;go_wp2;go_ret;exact ⟨qad (by rw [p.out]),qab j.out _⟩
  have B:decide ((k:Int) < (d.size:Int))=false:=by simp;omega
  have C:Hid (qbr hi lo d.toList=true):=by
   show _=_;rw [g.out,vcl jso];rfl
  go_wp2;go_ret;exact ⟨qad C.out.symm,j.out⟩
theorem selfN_okI (id:Int):(qat id == 0) = !okI id:=by
 unfold qat okI;by_cases h:id < 10\/999999 < id\/id % 10=0
 .rw [vam h]
  have:decide (10<=id/\id<=999999/\id % 10≠0)=false:=by simp;omega
  rw [this];rfl
 rw [vao h]
 have:decide (10<=id/\id<=999999/\id % 10≠0)=true:=by simp;omega
 rw [this];simp;omega
def AtR_K (lo hi:Int) (d:Array (Int×Int)) (w:World) (iv:Value) (wr:World):Prop:=∃ (k:Nat) (last:Int),iv=.int .i64 (k:Int)/\k<=d.size/\(k=0->last=lo)/\(∀ j,j + 1=k->last=d[j]!.1)/\lo<=last/\qbr hi lo d.toList=qbr hi last (d.toList.drop k)/\Below w.heap.size w wr
theorem qmk (A:Option Addr) (c:Nat) (d:Array (Int×Int)) (lo hi:Int) (w:World) (h:RdK qae 2 w.heap.size w A d) (hs:d.size<=1000000) :
 Calls prog 93 #[.slice A d.size c,.int .i64 lo,.int .i64 hi] w fun e q=>e=.returned (.bool (qbr hi lo d.toList))/\Below w.heap.size w q:=by
 have T:=hI h;clear h;go_in;go_wp2
 go_loopw [7] (fun i wr=>AtR_K lo hi d w i wr) (fun i _=>d.size - (intOf i).toNat)
 case atStart=>exact ⟨0,lo,rfl,vaj _,(fun _=>rfl),(fun j hj=>by omega),by omega,rfl,vag _ _⟩
 case round =>
  obtain ⟨n,last,rfl,hn,E,F,a3,C,hB⟩:=hrel;have o:=hI C;have r:=hI hB;have I:=hI E;have J:=hI F;clear C hB E F;by_cases u:n < d.size
  .have nz:(n:Int) < (d.size:Int):=by omega
   obtain ⟨b,t,rfl,Q,f⟩:=(T.out.below r.out).at_ u;have H:=f 0 jo;have V:=f 1 jo;have y:=hI (qfr d n u);have D:b < wr.heap.size:=vad Q r.out.size;obtain ⟨x,S⟩:∃ x,d[n]! = x:=⟨_,rfl⟩
   rw [S] at H V y;have U:=hI S;simp only [vak,qae,vac,vaf] at H V;have q0:∀ p:ExtW wr,p.to.cell? ⟨b,t + n * 2,none⟩=some (.int .i64 x.1):=fun p=>(p.h.cell (p:=⟨b,t + n * 2,none⟩) D).trans H
   have g:=hI (fun W=>qdu x.2 W);have s:=selfN_okI x.2;clear f S H;cases l:okI x.2
   .rw [l] at s
    simp only [Bool.not_false] at s;have z:Hid (qbr hi lo d.toList=false):=by show _=_;rw [o.out,y.out];simp [qbr,l]
    clear l;generalize qat x.2=G at s g;go_wp2_with (go_at_call 117;refine (g.out _).mono ?_;rintro e q ⟨rfl,rfl⟩);refine wprX ?_
    repeat (go_big_quiet_step (fail))
    refine wpQn fun q a=>?_
    have k:=hI (qaa r.out a);clear a;go_wp2;go_ret;exact ⟨qad (by rw [z.out]),k.out⟩
   rw [l] at s;simp only [Bool.not_true] at s;by_cases Y:x.1<=lo
   .have z:Hid (qbr hi lo d.toList=false):=by show _=_;rw [o.out,y.out];simp [qbr];intro Z h2;omega
    have N:decide (x.1<=lo)=true:=by simp;omega
    clear l;generalize qat x.2=G at s g;go_wp2_with (go_at_call 117;refine (g.out _).mono ?_;rintro e q ⟨rfl,rfl⟩);refine wprX ?_
    repeat (go_big_quiet_step (fail))
    refine wpQn fun q a=>?_
    have k:=hI (qaa r.out a);clear a;go_wp2;go_ret;exact ⟨qad (by rw [z.out]),k.out⟩
   have N:decide (x.1<=lo)=false:=by simp;omega
   by_cases g2:hi < x.1
   .have z:Hid (qbr hi lo d.toList=false):=by show _=_;rw [o.out,y.out];simp [qbr];intro Z h2;omega
    have O:decide (hi < x.1)=true:=by simp;omega
    clear l Y;generalize qat x.2=G at s g;go_wp2_with (go_at_call 117;refine (g.out _).mono ?_;rintro e q ⟨rfl,rfl⟩);refine wprX ?_
    repeat (go_big_quiet_step (fail))
    refine wpQn fun q a=>?_
    have k:=hI (qaa r.out a);clear a;go_wp2;go_ret;exact ⟨qad (by rw [z.out]),k.out⟩
   have O:decide (hi < x.1)=false:=by simp;omega
   by_cases g0:0 < n
   .obtain ⟨v,B⟩:∃ v,v + 1=n:=⟨n - 1,by omega⟩
    have M:decide ((0:Int) < (n:Int))=true:=by simp;omega
    have a1:(n:Int) - 1=(v:Int):=by omega
    have a4:(v:Int) < (d.size:Int):=by omega
    obtain ⟨b',a2,L,a0,X⟩:=(T.out.below r.out).at_ (i:=v) jo;injection L with L
    injection L with eb eo
    subst eb eo;have u0:=X 0 jo;have m:=J.out v B;simp only [vak,qae,vac] at u0;rw [<-m] at u0;have q2:∀ p:ExtW wr,p.to.cell? ⟨b,t + v * 2,none⟩=some (.int .i64 last):=fun p=>(p.h.cell (p:=⟨b,t + v * 2,none⟩) D).trans u0
    clear X u0 m;by_cases g3:x.1<=last
    .have z:Hid (qbr hi lo d.toList=false):=by show _=_;rw [o.out,y.out];simp [qbr];intro Z h2;omega
     have P:decide (x.1<=last)=true:=by simp;omega
     clear l Y g2 B;generalize qat x.2=G at s g;go_wp2_with (go_at_call 117;refine (g.out _).mono ?_;rintro e q ⟨rfl,rfl⟩);refine wprX ?_
     repeat (go_big_quiet_step (fail))
     refine wpQn fun q a=>?_
     have k:=hI (qaa r.out a);clear a;go_wp2;go_ret;exact ⟨qad (by rw [z.out]),k.out⟩
    have K:Hid (qbr hi lo d.toList=qbr hi x.1 (d.toList.drop (n + 1))):=by show _=_;rw [o.out,y.out];simp [qbr,l];intro h;omega
    have P:decide (x.1<=last)=false:=by simp;omega
    clear l B;generalize qat x.2=G at s g;go_wp2_with (go_at_call 117;refine (g.out _).mono ?_;rintro e q ⟨rfl,rfl⟩);refine wprX ?_
    repeat (go_big_quiet_step (fail))
    refine wpQn fun q a=>?_
    have k:=hI (qaa r.out a);clear a;go_wp2;go_roundw
    case rel=>exact ⟨n + 1,x.1,by go_num,by omega,(fun h=>by omega),(fun j hj=>by have e:j=n:=jo;rw [e,U.out]),by omega,K.out,k.out⟩
    case measure=>simp [intOf];omega
   have M:decide ((0:Int) < (n:Int))=false:=by simp;omega
   have m:=I.out jo;have K:Hid (qbr hi lo d.toList=qbr hi x.1 (d.toList.drop (n + 1))):=by show _=_;rw [o.out,y.out];simp [qbr,l];intro h;omega
   clear l m;generalize qat x.2=G at s g;go_wp2_with (go_at_call 117;refine (g.out _).mono ?_;rintro e q ⟨rfl,rfl⟩);refine wprX ?_
   repeat (go_big_quiet_step (fail))
   refine wpQn fun q a=>?_
   have k:=hI (qaa r.out a);clear a;go_wp2;go_roundw
   case rel=>exact ⟨n + 1,x.1,by go_num,by omega,(fun h=>by omega),(fun j hj=>by have e:j=n:=jo;rw [e,U.out]),by omega,K.out,k.out⟩
   case measure=>simp [intOf];omega
  have R:decide ((n:Int) < (d.size:Int))=false:=by simp;omega
  have HE:Hid (qbr hi lo d.toList=true):=by
   show _=_;rw [o.out,vcl jso];rfl
  go_wp2;go_ret;exact ⟨qad HE.out.symm,r.out⟩
def atK (d:Array (Int×Int)) (n:Int):Bool:=(qbn d.toList).contains n
theorem times_yes {d:Array (Int×Int)} {n:Int} {j:Nat} (a:j < d.size) (h:d[j]!.1=n):atK d n=true:=by
 unfold atK;rw [vct];exact vcp.2 ⟨d[j]!,by rw [vae d j a];simp,h⟩
theorem times_no {d:Array (Int×Int)} {n:Int} (h:∀ j,j < d.size->d[j]!.1≠n):atK d n=false:=by
 unfold atK;rw [vbi,Ne,vct];intro b;obtain ⟨x,c,e⟩:=vcp.1 b;obtain ⟨j,a,rfl⟩:=vbt.1 c
 have:=h j (by simpa using a)
 rw [vae d j (by simpa using a)] at this;exact this (by simpa using e)
theorem at_any (A:Option Addr) (c:Nat) (d:Array (Int×Int)) (n:Int) (B:Nat) (w:World) (h:RdK qae 2 B w A d) (E:d.size<=1000000) :
 Calls prog 95 #[.slice A d.size c,.int .i64 n] w fun e D=>e=.returned (.bool (atK d n))/\w=D:=by
 have v:=hI (fun j a y=>@times_yes d n j a y);have u:=hI (@times_no d n);go_in;go_wp2
 go_loop [5] (fun i=>∃ k:Nat,k<=d.size/\i=.int .i64 k/\∀ j,j < k->d[j]!.1≠n) (fun i=>d.size - (intOf i).toNat)
 case atStart=>exact ⟨0,vaj _,rfl,fun j a=>absurd a jo⟩
 case round =>
  obtain ⟨k,F,rfl,a⟩:=hrel;have r:=hI a;clear a;by_cases o:k < d.size
  .obtain ⟨b,C,rfl,_,f⟩:=h.at_ o
   have s:=f 0 jo;have m:=hI (v.out k o);have l:Hid (d[k]!.1≠n->∀ j,j < k + 1->d[j]!.1≠n):=fun z j a=>by
    rcases val j k with t | t
    .exact r.out j t
    obtain rfl:j=k:=by omega
    exact z
   generalize d[k]! = x at s m l;simp only [vak,qae,vac] at s;clear f;have G:(k:Int) < (d.size:Int):=by omega
   by_cases g:x.1=n
   .have q:(x.1 == n)=true:=by simp [g]
    have p:=hI g;clear g;go_wp2;go_ret;exact ⟨qad (m.out p.out).symm,rfl⟩
   have q:(x.1 == n)=false:=by simp [g]
   have p:=hI g;clear g;go_wp2;exact ⟨⟨k + 1,by omega,by go_num,l.out p.out⟩,by simp [intOf];omega⟩
  go_wp2;go_ret;exact ⟨qad (u.out fun j a=>r.out j jo).symm,rfl⟩
theorem quj (lo hi:Int) (A:Option Addr) (c:Nat) (d:Array Int) (w:World) (h:RdI_R w.heap.size w A d) (S:0<=lo) (T:lo<=1000000) (U:hi<=1000000) (V:d.size<=100000) :
 Calls prog 74 #[.int .i64 lo,.int .i64 hi,.slice A d.size c] w fun e J=>∃ v,e=.returned v/\J.ownsRow w.heap.size 124 2 v (betL lo hi (lo + 1) d.toList).toArray.size (flatK encR 2 (betL lo hi (lo + 1) d.toList).toArray).toList/\Below w.heap.size w J:=by
 obtain ⟨I,r,x,y,z⟩:=vbo qda;have K:=hI h;clear h;go_in;go_wp2
 go_loopw [7,8,15] (fun m a i wr=>∃ (k:Nat) (j:Array (Int×Int)) (g:Int),i=.int .i64 k/\a=.int .i64 g/\k<=d.size/\j.size<=k/\lo < g/\g<=1000001/\betL lo hi (lo + 1) d.toList=j.toList ++ betL lo hi g (d.toList.drop k)/\wr.ownsRow w.heap.size 124 2 m j.size (flatK encR 2 j).toList/\Below w.heap.size w wr) (fun _ _ i _=>d.size - (intOf i).toNat)
 case atStart=>exact ⟨0,#[],lo + 1,rfl,rfl,vaj _,vaa _,by omega,by omega,rfl,qbk _ _ _ _ _,vag _ _⟩
 case round =>
  obtain ⟨k,j,g,rfl,rfl,X,M,D,E,G,l,F⟩:=hrel;have C:=hI G;have p:=hI F;clear G F;obtain ⟨Q,R,rfl,_,_⟩:=qaq l;by_cases s:k < d.size
  .have Y:(k:Int) < (d.size:Int):=by omega
   obtain ⟨b,N,rfl,_,f⟩:=(K.out.below p.out).at_ s;have B:=hI (qfr d k s);generalize d[k]! = t at f B;by_cases u:lo < t/\t<=hi
   .have q:Hid (betL lo hi (lo + 1) d.toList=(j.push (g,t - 1)).toList ++ betL lo hi (t + 1) (d.toList.drop (k + 1))):=by
     show _=_;rw [C.out,B.out,betL,vam u,vdw,veo];rfl
    obtain ⟨Z,t2⟩:=u;go_wp2_with (at_builtin;refine vay _ rfl _ _ 64 rfl w.heap.size 124 I (.agg #[.int .i64 0,.int .i64 0]) 2 16 underlying64 r x y z rfl jd _ _ _ rfl (l.alloc _) ⟨wr.heap.size,0,none⟩ 1 1 [.int .i64 g,.int .i64 (t - 1)] rfl rfl (qcb wr _ _ _) jV jl jo (by have:=p.out.size;simp;omega) ?_;intro O P o n _);exact ⟨⟨k + 1,j.push (g,t - 1),t + 1,by go_num,rfl,by omega,by simp;omega,by omega,by omega,q.out,(by rw [vbk,qax qbj];exact o),qes p.out p.out.size l n⟩,by simp [intOf];omega⟩
   have q:Hid (betL lo hi (lo + 1) d.toList=j.toList ++ betL lo hi g (d.toList.drop (k + 1))):=by
    show _=_;rw [C.out,B.out,betL,vao u]
   have L:=hI u;clear u;go_wp2
   all_goals
    first
    | exact absurd ⟨by omega,by omega⟩ L.out
    | exact ⟨⟨k + 1,j,g,by go_num,rfl,by omega,by omega,D,E,q.out,l,p.out⟩,by simp [intOf];omega⟩
  have H:decide ((k:Int) < (d.size:Int))=false:=by simp;omega
  have q:Hid (betL lo hi (lo + 1) d.toList=(j.push (g,hi)).toList):=by
   show _=_;rw [C.out,vcl jso,betL,vdw]
  go_wp2_with (at_builtin;refine vay _ rfl _ _ 64 rfl w.heap.size 124 I (.agg #[.int .i64 0,.int .i64 0]) 2 16 underlying64 r x y z rfl jd _ _ _ rfl (l.alloc _) ⟨wr.heap.size,0,none⟩ 1 1 [.int .i64 g,.int .i64 hi] rfl rfl (qcb wr _ _ _) jV jl jo (by have:=p.out.size;simp;omega) ?_;intro O P o n _);go_ret;refine ⟨_,rfl,?_,qes p.out p.out.size l n⟩;rw [q.out];show World.ownsRow _ _ _ _ _ (j.push (g,hi)).size (flatK encR 2 (j.push (g,hi))).toList;rw [vbk,qax qbj];exact o
theorem quk (A:Option Addr) (c:Nat) (a:Value) (w:World) :
 Calls prog 148 #[.slice A 0 c,a] w fun e b=>e=.returned (.bool false)/\w=b:=by
 go_in;go_wp2;refine vdi 1 ?_;rw [vcy];go_wp2;go_ret;exact ⟨rfl,rfl⟩
theorem ContA (p:Int×Int->Bool) (g:Nat) (lb:Array Value) (A:Option Addr) (c:Nat) (d:Array (Int×Int)) (w:World) (h:RdK qae 2 w.heap.size w A d) (E:d.size<=100000000) (t:∀ a w,(callFunc g a).run prog w=.ok (.enter g a) w) (C:PredBelow prog g lb (fun x:Int×Int=>.agg (qae x).toArray) p w) :
 Calls prog 148 #[.slice A d.size c,.func (.func g) #[] lb] w fun e q=>e=.returned (.bool (d.toList.any p))/\Below w.heap.size w q:=by
 rcases vba d.size with m | m
 .have r:d=#[]:=var m
  subst r;exact (quk A c _ w).mono fun e q ⟨z,D⟩=>⟨by rw [z];rfl,by rw [<-D];exact vag _ _⟩
 obtain ⟨b,n,rfl,u,y⟩:=h m
 have:=AnyQ.slices_ContainsFunc laysContA 2 isAgg29 sizeOf29 qae (fun _=>rfl) p g lb t b n d.size c d.toList w C js jo u (fun j B i v k=>by
  have f:j < d.size:=by simpa using B
  have o:i < 2:=by
   rcases val i 2 with l | l
   .exact l
   rw [vbr (by show 2<=i;exact l)] at k;cases k
  have s:d.toList[j]! = d[j]!:=by simp [f]
  rw [s] at k;rw [vdl,y _ (quy f o),qfw _ _ _ _ _ f o]
  rw [vdg,k];rfl)
 rwa [show d.toList.take d.size=d.toList from vaz js] at this
def KnV (w:World) (v:Value) (k:KN):Prop:=∃ A1 c1 A2 c2,v=.agg #[.int .i64 k.base,.slice A1 k.rs.size c1,.slice A2 k.ats.size c2]/\RdK encR 2 w.heap.size w A1 k.rs/\RdK qae 2 w.heap.size w A2 k.ats/\(A1=none->c1=0)/\(A2=none->c2=0)
theorem KnV.below {w w':World} {v:Value} {k:KN} (h:KnV w v k) (a:Below w.heap.size w w'):KnV w' v k:=by
 obtain ⟨b,d,c,f,e,g,i,n1,j⟩:=h;exact ⟨b,d,c,f,e,(g.below a).mono a.size,(i.below a).mono a.size,n1,j⟩
theorem form_K (a:Int) (s:Option Addr) (c1:Nat) (l:Array (Int×Int)) (t:Option Addr) (x c2:Nat) (w:World) (h:RdK encR 2 w.heap.size w s l) :
 Calls prog 76 #[.int .i64 a,.slice s l.size c1,.slice t x c2] w fun e C=>∃ A b c,e=.returned (.agg #[.int .i64 (preE l a),.slice A b.size c,.slice t x c2])/\LessE l (1,preE l a) b/\RdK encR 2 C.heap.size C A b/\(A=none->c=0)/\(∀ g k,A=some ⟨g,k,none⟩->w.heap.size<=g)/\Below w.heap.size w C:=by
 have E:=hI h;clear h;go_in;go_wp2_with fail;refine (qvd s c1 l a _ ((E.out.alloc (vaa _) _).mono (bel1 w _).size)).mono ?_;rintro e I ⟨rfl,j⟩;have n:=qaa (bel1 w _) j;have y:=hI n;have D:=hI (gCut_any s c1 l (preE l a) I ((E.out.below n).mono n.size));go_wp2_with fail;refine D.out.mono ?_;rintro e m ⟨v,b,rfl,o,p,d,q⟩;have F:LessE l (1,preE l a) b:=⟨fun H=>less_fit H (o H),p⟩
 obtain ⟨A,c,rfl,u,G⟩:=qaq d;have L:=hI d;have r:∀ g k,A=some ⟨g,k,none⟩->w.heap.size<=g:=fun g k e=>by
  have U:=(d.lt g (by rw [e];rfl)).1;have N:=j.size;simp at N;omega
 have B:=hI r;clear d r;have Y:w.heap.size + 1<=I.heap.size:=by have:=j.size;simpa using this
 have J:=hI F;have z:=hI (qaa y.out q);have M:=hI u;have K:=hI G;have f:m.heap[w.heap.size]?=some (.cells #[.int .i64 0,.slice none 0 0,.slice none 0 0] 66 (0,0)):=(q.block _ jo).trans ((j.block _ js).trans (vaw w _));have O:m.cell? ⟨w.heap.size,0,none⟩=some (.int .i64 0):=by rw [vas m _ 0 _ _ (0,0) f];rfl
 have P:m.cell? ⟨w.heap.size,1,none⟩=some (.slice none 0 0):=by rw [vas m _ 1 _ _ (0,0) f];rfl
 have Q:m.cell? ⟨w.heap.size,2,none⟩=some (.slice none 0 0):=by rw [vas m _ 2 _ _ (0,0) f];rfl
 have T:∀ i,m.frozen? ⟨w.heap.size,i,none⟩=false:=fun i=>by simp [World.frozen?,f]
 clear F o p u G D f;go_wp2;refine vau (v:=.agg #[.int .i64 (preE l a),.slice A b.size c,.slice t x c2]) (by simp [results,results76,go_sem,O,P,Q]) rfl ⟨A,b,c,rfl,J.out,?_,K.out,B.out,?_⟩
 .obtain ⟨R,S,e,u,_⟩:=qaq (qei (w':=((m.setCell ⟨w.heap.size,0,none⟩ (.int .i64 (preE l a))).setCell ⟨w.heap.size,1,none⟩ (.slice A b.size c)).setCell ⟨w.heap.size,2,none⟩ (.slice t x c2)) L.out (fun g V X=>by
   simp only [World.setCell,vcw]
   repeat (rw [vao jo])))
  injection e with e1 e2 e3
  subst e1;exact u
 exact ((z.out.setCell (vaa _) _).setCell (vaa _) _).setCell (vaa _) _
def qcn (d:Array (Int×Int)):Array Int:=(qbn d.toList).toArray
theorem qgx (d:Array (Int×Int)):(qcn d).size=d.size:=by simp [qcn,qbn]
def tcs (d:Array (Int×Int)) (k:Nat):Array Value:=((List.range d.size).map fun t=>if t < k then Value.int .i64 d[t]!.1 else .int .i64 0).toArray
theorem qwn (d:Array (Int×Int)) (k t:Nat):(tcs d k)[t]?=if t < d.size then some (if t < k then Value.int .i64 d[t]!.1 else .int .i64 0) else none:=by
 unfold tcs;by_cases h:t < d.size
 .simp [h]
 simp [h]
theorem tcs_set (d:Array (Int×Int)) (k:Nat):(tcs d k).setIfInBounds k (.int .i64 d[k]!.1)=tcs d (k + 1):=by
 apply ven;intro t;rw [vbb,qwn,qwn];have c:(tcs d k).size=d.size:=by simp [tcs]
 by_cases h:k=t
 .subst h
  rw [vam rfl,c,vam (vcr k)]
 rw [vao h];by_cases a:t < d.size
 .rw [vam a,vam a]
  by_cases b:t < k
  .rw [vam b,vam jo]
  rw [vao b,vao jo]
 rw [vao a,vao a]
theorem tcs_all (d:Array (Int×Int)):tcs d d.size=(qcn d).map qdq:=by
 apply ven;intro t;rw [qwn];by_cases h:t < d.size
 .rw [vam h,vam h]
  simp [qcn,qbn,qdq,h]
 rw [vao h];simp [qcn,qbn,h]
theorem qml (S:Nat) (g:S<=1000000) (W:World):(Instr.makeSlice 26 (.int .i64 (S:Int)) (.int .i64 (S:Int))).run prog W=.ok (.slice (some ⟨W.heap.size,0,none⟩) S S) (W.alloc (.cells ((List.range S).map fun _=>Value.int .i64 0).toArray 3)):=by
 obtain ⟨f,a,b,c,d⟩:=vbo qcc;have h:=run_make (P:=prog) W 26 3 f (.int .i64 0) underlying26 a b .i64 .i64 (S:Int) (S:Int) jo jo (by rw [d];omega) jo;rw [h]
 have:madeCells (Value.int .i64 0).cells ((S:Int).toNat * f.size)=((List.range S).map fun _=>Value.int .i64 0).toArray:=by
  rw [c,Int.toNat_natCast,vcq];unfold madeCells;apply ven;intro t;by_cases e:t < S
  .simp [e,Value.cells,Nat.mod_one]
  simp [e]
 rw [this,Int.toNat_natCast]
theorem blk_put {W:World} {g:Nat} {cs:Array Value} {t:TypeId} (h:W.heap[g]?=some (.cells cs t (0,0))) (o:Obj) (k:Nat) (u:Value):((W.setCell ⟨g,k,none⟩ u).alloc o).heap[g]?=some (.cells (cs.setIfInBounds k u) t (0,0)):=by
 refine qdm ?_;simp [World.setCell,Array.getElem?_modify,h]
def TmR (d:Array (Int×Int)) (w:World) (iv:Value) (wr:World):Prop:=∃ k:Nat,iv=.int .i64 (k:Int)/\k<=d.size/\wr.heap[w.heap.size]?=some (.cells (tcs d k) 3 (0,0))/\Below w.heap.size w wr
theorem qrp (A:Option Addr) (c:Nat) (d:Array (Int×Int)) (w:World) (h:RdK qae 2 w.heap.size w A d) (H:d.size<=1000000) :
 Calls prog 73 #[.slice A d.size c] w fun e y=>e=.returned (.slice (some ⟨w.heap.size,0,none⟩) (qcn d).size d.size)/\y.heap[w.heap.size]?=some (.cells ((qcn d).map qdq) 3 (0,0))/\Below w.heap.size w y:=by
 have B:=hI h;clear h;have n:=qml d.size H w;go_in;go_wp2;clear n
 go_loopw [11] (fun i wr=>TmR d w i wr) (fun i _=>d.size - (intOf i).toNat)
 case atStart =>
  refine ⟨0,rfl,vaj _,?_,bel1 w _⟩;have e:((List.range d.size).map fun _=>Value.int .i64 0).toArray=tcs d 0:=by
   unfold tcs;simp
  rw [e];exact vaw w _
 case round =>
  obtain ⟨k,rfl,J,a,t⟩:=hrel;have l:=hI t;have g:=hI a;have m:w.heap.size < wr.heap.size:=by
   rcases val w.heap.size wr.heap.size with h | h
   .exact h
   rw [vbn h] at a;cases a
  clear t a;by_cases j:k < d.size
  .have K:(k:Int) < (d.size:Int):=by omega
   obtain ⟨b,I,rfl,F,f⟩:=(B.out.below l.out).at_ j;have r:=f 0 jo;have s:=f 1 jo;have q:=hI (tcs_set d k);have D:wr.cell? ⟨w.heap.size,k,none⟩=some (.int .i64 0):=by
    rw [vas wr _ k _ _ (0,0) g.out,qwn,vam j,vao jo]
   have E:wr.frozen? ⟨w.heap.size,k,none⟩=false:=by
    have:=g.out
    simp [World.frozen?,this]
   generalize d[k]! = x at r s q;simp only [vak,qae,vac,vaf] at r s;clear f;generalize u:w.heap.size=G at D E m g l;have o:=hI u;clear u;go_wp2;go_roundw
   case rel =>
    refine ⟨k + 1,by go_num,by omega,?_,?_⟩
    .rw [<-q.out,o.out];exact blk_put g.out _ k _
    rw [o.out];exact (l.out.setCell (p:=⟨G,k,none⟩) (vaa G) _).alloc jso _
   case measure=>simp [intOf];omega
  have v:decide ((k:Int) < (d.size:Int))=false:=by simp;omega
  have z:Hid (wr.heap[w.heap.size]?=some (.cells ((qcn d).map qdq) 3 (0,0))):=by
   show _=_;rw [g.out,<-tcs_all]
   have:k=d.size:=by omega
   rw [this]
  have C:=hI (qgx d);go_wp2;go_ret;refine ⟨?_,z.out,l.out⟩;rw [C.out];rfl
theorem bsT (g c:Nat) (a:Array (Int×Int)) (x:Int) (w:World) (d:(qbn a.toList).Pairwise (· < ·)) (n:a.size<=1000000) (b:w.heap[g]?=some (.cells ((qcn a).map qdq) 3 (0,0))) :
 Calls prog 153 #[.slice (some ⟨g,0,none⟩) (qcn a).size c,.int .i64 x] w fun e k=>∃ i,e=.returned (.tuple #[.int .i64 i,.bool (atK a x)])/\Below w.heap.size w k:=by
 have m:(qbn a.toList).length=(qcn a).size:=by simp [qcn]
 have f:(qbn a.toList).take (qcn a).size=qbn a.toList:=vaz jo;refine (slices_BinarySearch_int g 0 (qcn a).size c (qbn a.toList) x w jo (by rw [qgx];omega) ?_ ?_).mono ?_
 .intro j l
  rw [vcc,vas w g j _ _ (0,0) b];rw [m] at l;simp [qdq,qcn,List.getD_eq_getElem?_getD,(show j < (qbn a.toList).length by omega)]
 .rw [f]
  exact d.imp (fun h=>Int.le_of_lt h)
 rintro e k ⟨rfl,q,rfl⟩;rw [f];exact ⟨_,rfl,qaj (vag _ _) q⟩
def MgR (B:Nat) (a b:Array (Int×Int)) (w:World) (ov iv:Value) (wr:World):Prop:=∃ (k:Nat) (out:Array (Int×Int)),iv=.int .i64 (k:Int)/\k<=b.size/\out.size<=a.size + k/\(a.toList ++ b.toList.filter fun x=>!(atK a x.1))=out.toList ++ (b.toList.drop k).filter (fun x=>!(atK a x.1))/\wr.ownsRow B 29 2 ov out.size (flatK qae 2 out).toList/\wr.heap[w.heap.size]?=some (.cells ((qcn a).map qdq) 3 (0,0))/\B<=wr.heap.size/\Below w.heap.size w wr
theorem qrq {w wr b:World} {B:Nat} {o:Obj} {e:TypeId} {s n:Nat} {v:Value} {h:List Value} (d:Below B w wr) (c:B<=wr.heap.size) (a:wr.ownsRow B e s v n h) (f:(wr.alloc o).grownBy b v.ownBlock):Below B w b :=
 (d.alloc c _).grown f jso (fun k g=>(a.lt k g).1)
theorem qoq (A1:Option Addr) (c1:Nat) (a:Array (Int×Int)) (A2:Option Addr) (c2:Nat) (b:Array (Int×Int)) (w:World) (h1:RdK qae 2 w.heap.size w A1 a) (h2:RdK qae 2 w.heap.size w A2 b) (X:(qbn a.toList).Pairwise (· < ·)) (b5:a.size<=100000) (b6:b.size<=100000) :
 Calls prog 72 #[.slice A1 a.size c1,.slice A2 b.size c2] w fun e Z=>∃ J c',e=.returned (.slice J (mrgK a b).size c')/\RdK qae 2 Z.heap.size Z J (mrgK a b)/\(J=none->c'=0)/\(∀ g u,J=some ⟨g,u,none⟩->w.heap.size<=g)/\Below w.heap.size w Z:=by
 obtain ⟨i0,a8,a9,b0,b1⟩:=vbo qfq;have H1:=hI h1;have H2:=hI h2;have HU:=hI X;clear h1 h2 X;have a3:Hid ((mrgK a b).size=(a.toList ++ b.toList.filter fun x=>!(atK a x.1)).toArray.size):=by show _=_;unfold mrgK;rw [qid];rfl
 go_in;go_wp2_with fail;refine (qrp A1 c1 a w H1.out jo).mono ?_;rintro e w1 ⟨rfl,o,Q⟩;have D:=hI Q;have E:=hI o;clear Q o;have HC:=hI (qhm A1 c1 a w1 ((H1.out.below D.out).mono D.out.size) jo);go_wp2_with fail;refine HC.out.mono ?_;rintro e w2 ⟨v,rfl,q,t⟩;have z:w.heap.size < w1.heap.size:=by
  rcases val w.heap.size w1.heap.size with h | h
  .exact h
  have:=E.out;rw [vbn h] at this;cases this
 have O:=hI q;have a2:=hI ((t.block _ z).trans E.out);have a0:=hI (qaa D.out t);obtain ⟨B,F⟩:∃ B,B=w1.heap.size:=⟨_,rfl⟩
 rw [<-F] at O z;have P:B<=w2.heap.size:=by rw [F];exact t.size
 clear HC q t E F;generalize hG:w.heap.size=G;have HG:=hI hG;clear hG;go_wp2
 go_loopw [6,17] (fun ov iv wr=>MgR B a b w ov iv wr) (fun _ i _=>b.size - (intOf i).toNat)
 case atStart=>exact ⟨0,a,rfl,vaj _,by omega,rfl,O.out,a2.out,P,a0.out⟩
 case round =>
  obtain ⟨k,l,rfl,hk,b4,he,A,y,a6,hB⟩:=hrel;have HE:=hI he;have HO:=hI A;have HK:=hI y;have L:=hI hB;clear he A y hB;by_cases S:k < b.size
  .have kz:(k:Int) < (b.size:Int):=by omega
   obtain ⟨bb,u,rfl,b3,f⟩:=(H2.out.below L.out).at_ S;have e0:=f 0 jo;have e1:=f 1 jo;have HD:=hI (qfr b k S);generalize b[k]! = x at e0 e1 HD;simp only [vak,qae,vac,vaf] at e0 e1;clear f;have M:Hid (∀ c W,Below wr.heap.size wr W->Calls prog 153 #[.slice (some ⟨G,0,none⟩) (qcn a).size c,.int .i64 x.1] W fun e Z=>∃ i,e=.returned (.tuple #[.int .i64 i,.bool (atK a x.1)])/\Below W.heap.size W Z):=fun c W a7=>by
    refine bsT G c a x.1 W HU.out jo ?_;have T:w.heap.size < wr.heap.size:=by
     rcases val w.heap.size wr.heap.size with h | h
     .exact h
     have:=HK.out;rw [vbn h] at this;cases this
    rw [<-HG.out];exact (a7.block _ T).trans HK.out
   go_wp2_with fail;refine (M.out _ _ (bel1 wr _)).mono ?_;rintro e I ⟨i,rfl,d⟩;have u0:I.cell? ⟨wr.heap.size,0,none⟩=some (.int .i64 x.1):=(d.cell (p:=⟨wr.heap.size,0,none⟩) js).trans (by rw [qau];rfl);have u1:I.cell? ⟨wr.heap.size,1,none⟩=some (.int .i64 x.2):=(d.cell (p:=⟨wr.heap.size,1,none⟩) js).trans (by rw [qau];rfl);have n:=qaa (bel1 wr _) d;have m:=hI (L.out.trans (n.mono L.out.size));have r:=qjz HO.out n
   have N:=hI (show I.heap[w.heap.size]?=_ from (n.block _ (by
    rcases val w.heap.size wr.heap.size with h | h
    .exact h
    have:=HK.out;rw [vbn h] at this;cases this)).trans HK.out)
   have Y:B<=I.heap.size:=vax a6 n.size;clear d n M;cases s:atK a x.1
   .have K:Hid ((a.toList ++ b.toList.filter fun x=>!(atK a x.1))=(l.push x).toList ++ (b.toList.drop (k + 1)).filter (fun x=>!(atK a x.1))):=by
     show _=_;rw [HE.out,HD.out,vfi,s,vdw,veo];rfl
    clear s;go_wp2_with (at_builtin;refine vay _ rfl _ _ 23 rfl B 29 i0 (.agg #[.int .i64 0,.int .i64 0]) 2 16 underlying23 a8 a9 b0 b1 rfl jd _ _ _ rfl (r.alloc _) ⟨I.heap.size,0,none⟩ 1 1 [.int .i64 x.1,.int .i64 x.2] rfl rfl (qcb I _ _ _) jV jl jo jso ?_;intro v' w5 H j _);go_roundw
    case rel =>
     refine ⟨k + 1,l.push x,by go_num,by omega,by simp;omega,K.out,(by rw [vbk,qax qar];exact H),?_,vax Y (vax js j.size),qrq m.out m.out.size (qbx r jo) j⟩;have hz:=m.out.size;refine (j.block _ jso (fun e=>?_)).trans (qdm N.out)
     have:=(r.lt _ e.symm).1
     omega
    case measure=>simp [intOf];omega
   have K:Hid ((a.toList ++ b.toList.filter fun x=>!(atK a x.1))=l.toList ++ (b.toList.drop (k + 1)).filter (fun x=>!(atK a x.1))):=by
    show _=_;rw [HE.out,HD.out,vfi,s];rfl
   clear s;go_wp2;go_roundw
   case rel=>exact ⟨k + 1,l,by go_num,by omega,by omega,K.out,r,N.out,Y,m.out⟩
   case measure=>simp [intOf];omega
  have b2:decide ((k:Int) < (b.size:Int))=false:=by simp;omega
  have K:Hid ((a.toList ++ b.toList.filter fun x=>!(atK a x.1)).toArray=l):=by
   show _=_;rw [HE.out,vcl jso];simp
  obtain ⟨Am,cm,rfl,V,_⟩:=qaq HO.out;have HS:=hI (Sort_any Am cm l wr V jo);clear V;go_wp2_with fail;refine HS.out.mono ?_;rintro e I ⟨J,c',rfl,C,U,R,d⟩;have a5:=hI C;have a4:=hI U;have a1:=hI R;have m:=hI d;clear C U R d;go_wp2;go_ret;refine ⟨J,c',by rw [a3.out,K.out];rfl,?_,a4.out,fun g u e=>vax L.out.size (a1.out g u e),qaa L.out m.out⟩;have e:mrgK a b=srtA l:=by rw [<-K.out];rfl
  rw [e];exact a5.out
theorem box3 {w d:World} {a b c:Value} {T:TypeId} (e:Below (w.alloc (.cells #[a,b,c] T)).heap.size (w.alloc (.cells #[a,b,c] T)) d):d.cell? ⟨w.heap.size,0,none⟩=some a/\d.cell? ⟨w.heap.size,1,none⟩=some b/\d.cell? ⟨w.heap.size,2,none⟩=some c:=by
 refine ⟨?_,?_,?_⟩
 .exact (e.cell (p:=⟨w.heap.size,0,none⟩) js).trans (qau w _ _ 0)
 .exact (e.cell (p:=⟨w.heap.size,1,none⟩) js).trans (qau w _ _ 1)
 exact (e.cell (p:=⟨w.heap.size,2,none⟩) js).trans (qau w _ _ 2)
theorem has_in {rs:Array (Int×Int)} (h:qam rs=0) (n:Int):qbg rs n=inR rs n:=by unfold qbg;rw [h];rfl
theorem kChk1_any (rs:Array (Int×Int)) (a:Option Addr) (c1:Nat) (x:Int×Int) (g:Nat) (w:World) (j:g < w.heap.size) (f:w.cell? ⟨g,1,none⟩=some (.slice a rs.size c1)) (h:RdK encR 2 w.heap.size w a rs) :
 Calls prog 147 #[.agg #[.int .i64 x.1,.int .i64 x.2],.pointer (some ⟨g,0,none⟩)] w fun e k=>e=.returned (.bool (qbg rs x.1))/\Below w.heap.size w k:=by
 have d:=hI h;clear h;have i:(w.alloc (.cells #[.int .i64 x.1,.int .i64 x.2] 29)).cell? ⟨g,1,none⟩=some (.slice a rs.size c1):=(vbq w _ _ j).trans f;have c:=hI (qkc a c1 rs x.1 (w.alloc (.cells #[.int .i64 x.1,.int .i64 x.2] 29)) ((d.out.alloc (vaa _) _).mono (bel1 w _).size));generalize qbg rs x.1=l at c;go_in;go_wp2_with fail;refine c.out.mono ?_;rintro e m ⟨rfl,b⟩;go_wp2;go_ret;exact ⟨rfl,qaa (bel1 w _) b⟩
theorem qgo (c:Int) (rs ats:Array (Int×Int)) (J:Option Addr) (c1:Nat) (Q:Option Addr) (c2:Nat) (w:World) (h1:RdK encR 2 w.heap.size w J rs) (h2:RdK qae 2 w.heap.size w Q ats) :
 Calls prog 67 #[.agg #[.int .i64 c,.slice J rs.size c1,.slice Q ats.size c2]] w fun e P=>e=.returned (.int .i64 (chkE ⟨c,rs,ats⟩))/\Below w.heap.size w P:=by
 have HC:Hid (∀ W,Below w.heap.size w W->Calls prog 128 #[.slice J rs.size c1] W fun e P=>e=.returned (.int .i64 (qam rs))/\Below W.heap.size W P):=fun W t=>qkv J c1 rs W ((h1.below t).mono t.size)
 have K:Hid (ats.size<=400->∀ W,Below w.heap.size w W->Calls prog 68 #[.slice Q ats.size c2,.int .i64 c,.int .i64 1000000] W fun e P=>e=.returned (.bool (qbr 1000000 c ats.toList))/\Below W.heap.size W P):=fun hs W t=>qpu Q c2 ats c 1000000 W ((h2.below t).mono t.size) jo
 have U:=hI h1;have a0:=hI h2;have C:∀ b:Bool,chkB ⟨c,rs,ats⟩=b->chkE ⟨c,rs,ats⟩=if b=true then 0 else 2:=fun b t=>by unfold chkE;rw [t]
 clear h1 h2;by_cases D:c < 0\/1000000 < c\/qam rs≠0\/400 < ats.size\/qbr 1000000 c ats.toList=false
 .have r:Hid (chkE ⟨c,rs,ats⟩=2):=by
   show _=_;rw [C false]
   .rfl
   rw [vbi];intro h;have X:=qco.1 h;have a1:=X.b0;have a2:=X.b1;have a3:=X.rs;have a4:=X.sz;have a5:=X.up;simp only at a1 a2 a3 a4 a5;rcases D with g | g | g | g | g
   .omega
   .omega
   .exact g a3
   .omega
   rw [a5] at g;cases g
  clear C;by_cases N:c < 0
  .have a7:decide (c < 0)=true:=by simpa using N
   clear D N;go_in;go_wp2;go_ret;exact ⟨qag r.out.symm,bel1 w _⟩
  have a7:decide (c < 0)=false:=by simpa using N
  by_cases R:1000000 < c
  .have a8:decide (1000000 < c)=true:=by simpa using R
   clear D N R;go_in;go_wp2;go_ret;exact ⟨qag r.out.symm,bel1 w _⟩
  have a8:decide (1000000 < c)=false:=by simpa using R
  have HQ:Hid (qam rs≠0\/400 < ats.size\/qbr 1000000 c ats.toList=false):=by
   rcases D with g | g | g
   .exact absurd g N
   .exact absurd g R
   exact g
  clear D N R;go_in;go_wp2_with fail;refine (HC.out _ (bel1 w _)).mono ?_;rintro e w1 ⟨rfl,l⟩;obtain ⟨u0,u1,u2⟩:=box3 l;have q:=hI (qaa (bel1 w _) l);have A:=fun p:ats.size<=400=>K.out p w1 q.out
  have HR:=hI A;clear l A HC;by_cases O:qam rs=0
  .have a9:(qam rs != 0)=false:=by simpa using O
   by_cases q4:400 < ats.size
   .have b0:decide ((400:Int) < (ats.size:Int))=true:=by simp;omega
    clear O q4;go_wp2;go_ret;exact ⟨qag r.out.symm,q.out⟩
   have b0:decide ((400:Int) < (ats.size:Int))=false:=by simp;omega
   have I:qbr 1000000 c ats.toList=false:=by
    rcases HQ.out with g | g | g
    .exact absurd O g
    .exact absurd g q4
    exact g
   have y:=hI (HR.out jo);rw [I] at y;clear O I HQ HR;go_wp2_with fail;refine y.out.mono ?_;rintro e w2 ⟨rfl,m⟩;go_wp2;go_ret;exact ⟨qag r.out.symm,qaa q.out m⟩
  have a9:(qam rs != 0)=true:=by simpa using O
  clear O HQ;go_wp2;go_ret;exact ⟨qag r.out.symm,q.out⟩
 obtain ⟨p1,p2,Z,p4,p5⟩:0<=c/\c<=1000000/\qam rs=0/\ats.size<=400/\qbr 1000000 c ats.toList=true:=by
  refine ⟨by omega,by omega,Classical.byContradiction fun h=>D (by simp [h]),by omega,?_⟩;cases hr:qbr 1000000 c ats.toList
  .exact absurd (by simp [hr]) D
  rfl
 have E:chkB ⟨c,rs,ats⟩=(decide (0 < rs.size->c + 1 < rs[0]!.1) && !(ats.toList.any fun a=>qbg rs a.1)):=by
  have e:(fun a:Int×Int=>qbg rs a.1)=fun a=>inR rs a.1:=funext fun a=>has_in Z a.1
  rw [e];unfold chkB;simp only [Z,p5,p4];simp [p1,p2]
 have v:=hI E;have N:decide (c < 0)=false:=by simpa using p1
 have R:decide (1000000 < c)=false:=by simpa using p2
 have O:(qam rs != 0)=false:=by simpa using Z
 have q4:decide ((400:Int) < (ats.size:Int))=false:=by simp;omega
 have z:=hI (K.out p4);rw [p5] at z;have V:=hI C;have b3:=hI p4;have b4:=(qcy Z).1;have F:∀ W,Below w.heap.size w W->0 < rs.size->∃ b B,J=some ⟨b,B,none⟩/\W.cell? ⟨b,B,none⟩=some (.int .i64 rs[0]!.1):=fun W t h0=>by
  obtain ⟨b,B,e,_,f⟩:=(U.out.below t).at_ (i:=0) h0;refine ⟨b,B,e,?_⟩
  have:=f 0 jo
  simpa [encR] using this
 have HN:=hI F;have G:∀ g W,g < W.heap.size->W.cell? ⟨g,1,none⟩=some (.slice J rs.size c1)->Below w.heap.size w W->Calls prog 148 #[.slice Q ats.size c2,.func (.func 147) #[] #[.pointer (some ⟨g,0,none⟩)]] W fun e P=>e=.returned (.bool (ats.toList.any fun a=>qbg rs a.1))/\Below W.heap.size W P:=fun g W hg hc t =>
  ContA (fun a=>qbg rs a.1) 147 #[.pointer (some ⟨g,0,none⟩)] Q c2 ats W ((a0.out.below t).mono t.size) jo (veb func147 jk rfl)
   (fun W' x u=>(kChk1_any rs J c1 x g W' (vad hg u.size) ((u.cell (p:=⟨g,1,none⟩) hg).trans hc) (((U.out.below t).mono t.size).below u |>.mono u.size)).mono fun _ _ ⟨he,a6⟩=>⟨he,u.trans (a6.mono u.size)⟩)
 have S:=hI G;clear D Z p5 E C F G K;go_in;go_wp2_with fail;refine (HC.out _ (bel1 w _)).mono ?_;rintro e w1 ⟨rfl,l⟩;obtain ⟨u0,u1,u2⟩:=box3 l;have q:=hI (qaa (bel1 w _) l);have y:=hI (z.out w1 q.out);have n:w.heap.size < w1.heap.size:=by have:=l.size;simp at this;omega
 clear l HC z;go_wp2_with fail;refine y.out.mono ?_;rintro e w2 ⟨rfl,m⟩;have v0:=(m.cell (p:=⟨w.heap.size,0,none⟩) n).trans u0;have v1:=(m.cell (p:=⟨w.heap.size,1,none⟩) n).trans u1;have v2:=(m.cell (p:=⟨w.heap.size,2,none⟩) n).trans u2;have H:w.heap.size < w2.heap.size:=vad n m.size;have k:=hI (qaa q.out m);clear m u0 u1 u2 y n;by_cases I:0 < rs.size
 .obtain ⟨b,B,rfl,L⟩:=HN.out w2 k.out I
  have b1:decide ((0:Int) < (rs.size:Int))=true:=by simp;omega
  obtain ⟨Y,M⟩:∃ Y,rs[0]!.1=Y:=⟨_,rfl⟩
  rw [M] at L;have T:=hI M;clear M HN;by_cases q6:Y<=c + 1
  .have b2:decide (Y<=c + 1)=true:=by simpa using q6
   have r:Hid (chkE ⟨c,rs,ats⟩=2):=by
    show _=_;rw [V.out false]
    .rfl
    rw [v.out,ver]
    left
    rw [vat];intro h
    have:=h I
    rw [T.out] at this;omega
   clear q6;go_wp2;go_quiet (fail);go_wp2;go_ret;exact ⟨qag r.out.symm,qaj k.out _⟩
  have b2:decide (Y<=c + 1)=false:=by simpa using q6
  have o:decide (0 < rs.size->c + 1 < rs[0]!.1)=true:=by
   rw [vbj];intro _;rw [T.out];omega
  rw [o,vcn] at v;clear q6 o;go_wp2;go_quiet (fail);have j:=hI (S.out w.heap.size (w2.drewN nq) H v1 (qaj k.out _));cases d:(ats.toList.any fun a=>qbg rs a.1)
  .rw [d] at j v
   have r:Hid (chkE ⟨c,rs,ats⟩=0):=by show _=_;rw [V.out true v.out];rfl
   clear d;go_wp2_with fail;refine j.out.mono ?_;rintro e w3 ⟨rfl,s⟩;go_wp2;go_ret;exact ⟨qag r.out.symm,qaa (qaj k.out _) s⟩
  rw [d] at j v;have r:Hid (chkE ⟨c,rs,ats⟩=2):=by show _=_;rw [V.out false v.out];rfl
  clear d;go_wp2_with fail;refine j.out.mono ?_;rintro e w3 ⟨rfl,s⟩;go_wp2;go_ret;exact ⟨qag r.out.symm,qaa (qaj k.out _) s⟩
 have b1:decide ((0:Int) < (rs.size:Int))=false:=vab jo;have b5:decide (0 < rs.size)=false:=vab I;have o:decide (0 < rs.size->c + 1 < rs[0]!.1)=true:=by
  rw [vbj];intro h;exact absurd h I
 rw [o,vcn] at v;clear I o HN;go_wp2;go_quiet (fail);have j:=hI (S.out w.heap.size (w2.drewN nq) H v1 (qaj k.out _));cases d:(ats.toList.any fun a=>qbg rs a.1)
 .rw [d] at j v
  have r:Hid (chkE ⟨c,rs,ats⟩=0):=by show _=_;rw [V.out true v.out];rfl
  clear d;go_wp2_with fail;refine j.out.mono ?_;rintro e w3 ⟨rfl,s⟩;go_wp2;go_ret;exact ⟨qag r.out.symm,qaa (qaj k.out _) s⟩
 rw [d] at j v;have r:Hid (chkE ⟨c,rs,ats⟩=2):=by show _=_;rw [V.out false v.out];rfl
 clear d;go_wp2_with fail;refine j.out.mono ?_;rintro e w3 ⟨rfl,s⟩;go_wp2;go_ret;exact ⟨qag r.out.symm,qaa (qaj k.out _) s⟩
theorem qzh (v:Value) (k:KN) (w:World) (h:KnV w v k):Calls prog 67 #[v] w fun e i=>e=.returned (.int .i64 (chkE k))/\Below w.heap.size w i:=by
 obtain ⟨a,c,b,d,rfl,f,g,_,_⟩:=h;exact qgo k.base k.rs k.ats a c b d w f g
theorem qrr {α:Type} [Inhabited α] {a d2:Array α} (d:a.size=d2.size) (h:∀ j,j < a.size->a[j]! = d2[j]!):a=d2 :=
 Array.ext d fun t b c=>by have:=h t b;rwa [vae a t b,vae d2 t c] at this
theorem RdK.next_K {α:Type} [Inhabited α] {enc:α->List Value} {k:Nat} {w w':World} {A:Option Addr} {d:Array α} (h:RdK enc k w.heap.size w A d) (a:Below w.heap.size w w'):RdK enc k w'.heap.size w' A d:=(h.below a).mono a.size
