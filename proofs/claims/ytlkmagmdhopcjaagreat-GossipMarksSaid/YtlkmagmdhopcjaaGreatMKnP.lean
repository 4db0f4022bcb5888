/- Texts that the law leans on. -/
import Derived.Test.YtlkmagmdhopcjaaGreatMRangesM
import Derived.Test.YtlkmagmdhopcjaaGreatMSortJ
import Derived.Deep.LoopGhost
import Derived.Test.YtlkmagmdhopcjaaGreatMIdentB
import Derived.Laws.NewBlocks
import Derived.Laws.StructEq
namespace Go.Proofs.YtlkmagmdhopcjaaGreat
open Go.RowKit Go.Sort Go.Lib
structure KN where
 base:Int
 rs:Array (Int×Int)
 ats:Array (Int×Int)
instance:Inhabited KN:=⟨⟨0,#[],#[]⟩⟩
def okI (id:Int):Bool:=decide (10≤id∧id≤999999∧id % 10≠0)
def qdg (hi:Int):Int→List (Int×Int)→Bool
 | _,[]=>true
 | lo,x :: l=>decide (lo < x.1∧x.1≤hi) && okI x.2 && qdg hi x.1 l
theorem qbq (hi:Int):∀ (l:List (Int×Int)) (lo:Int),qdg hi lo l=true↔l.Pairwise (fun x y=>x.1 < y.1)∧∀ x ∈ l,lo < x.1∧x.1≤hi∧okI x.2=true
 | [],lo=>by simp [qdg]
 | x :: l,lo=>by
   rw [qdg,Bool.and_eq_true,Bool.and_eq_true,decide_eq_true_eq,qbq hi l x.1,List.pairwise_cons]
   constructor
   ·rintro ⟨⟨⟨h1,h2⟩,h3⟩,h4,h5⟩
    refine ⟨⟨fun y hy=>(h5 y hy).1,h4⟩,fun y hy=>?_⟩
    rcases List.mem_cons.1 hy with rfl | hy
    ·exact ⟨h1,h2,h3⟩
    ·exact ⟨Int.lt_trans h1 (h5 y hy).1,(h5 y hy).2⟩
   ·rintro ⟨⟨h1,h2⟩,h3⟩
    have hx:=h3 x (by simp)
    exact ⟨⟨⟨hx.1,hx.2.1⟩,hx.2.2⟩,h2,fun y hy=>⟨h1 y hy,(h3 y (by simp [hy])).2⟩⟩
def chkB (k:KN):Bool:=decide (0≤k.base∧k.base≤1000000) && (qam k.rs == 0) && decide (k.ats.size≤400) && qdg 1000000 k.base k.ats.toList && decide (0 < k.rs.size→k.base + 1 < k.rs[0]!.1) && !(k.ats.toList.any fun a=>inR k.rs a.1)
def chkE (k:KN):Int:=if chkB k=true then 0 else 2
structure ChkP (k:KN):Prop where
 b0:0≤k.base
 b1:k.base≤1000000
 rs:qam k.rs=0
 sz:k.ats.size≤400
 up:qdg 1000000 k.base k.ats.toList=true
 fst:0 < k.rs.size→k.base + 1 < k.rs[0]!.1
 out:∀ a ∈ k.ats.toList,inR k.rs a.1=false
theorem qdp {k:KN}:chkB k=true↔ChkP k:=by
 unfold chkB
 simp only [Bool.and_eq_true,decide_eq_true_eq,beq_iff_eq,Bool.not_eq_true',List.any_eq_false,Bool.not_eq_true]
 constructor
 ·rintro ⟨⟨⟨⟨⟨⟨h1,h2⟩,h3⟩,h4⟩,h5⟩,h6⟩,h7⟩
  exact ⟨h1,h2,h3,h4,h5,h6,h7⟩
 ·rintro ⟨h1,h2,h3,h4,h5,h6,h7⟩
  exact ⟨⟨⟨⟨⟨⟨h1,h2⟩,h3⟩,h4⟩,h5⟩,h6⟩,h7⟩
def hasK (k:KN) (t:Int):Bool:=chkB k && (decide (1≤t∧t≤k.base) || qbx k.rs t)
theorem hasK_iff {k:KN} (h:ChkP k) (t:Int):hasK k t=true↔(1≤t∧t≤k.base)∨inR k.rs t=true:=by
 unfold hasK qbx
 rw [qdp.2 h,h.rs]
 simp
def qbg (l:List (Int×Int)):List Int:=l.map (·.1)
def mrgK (a b:Array (Int×Int)):Array (Int×Int):=srtA (a.toList ++ b.toList.filter fun x=>!(qbg a.toList).contains x.1).toArray
theorem srtA_mem {d:Array (Int×Int)} {x:Int×Int}:x ∈ (srtA d).toList↔x ∈ d.toList:=by
 unfold srtA
 exact (List.mergeSort_perm d.toList _).mem_iff
theorem qjh {a b:Array (Int×Int)} {x:Int×Int}:x ∈ (mrgK a b).toList↔x ∈ a.toList∨(x ∈ b.toList∧x.1 ∉ qbg a.toList):=by
 unfold mrgK
 rw [srtA_mem]
 simp
theorem qlz (a b:Array (Int×Int)):(mrgK a b).size≤a.size + b.size:=by
 unfold mrgK
 rw [qmy]
 have:=List.length_filter_le (fun x:Int×Int=>!(qbg a.toList).contains x.1) b.toList
 simp at this ⊢
 omega
theorem qxi {a b:Array (Int×Int)} {t:Int}:t ∈ qbg (mrgK a b).toList↔t ∈ qbg a.toList∨t ∈ qbg b.toList:=by
 unfold qbg
 simp only [List.mem_map]
 constructor
 ·rintro ⟨x,hx,rfl⟩
  rcases qjh.1 hx with h | h
  ·exact Or.inl ⟨x,h,rfl⟩
  ·exact Or.inr ⟨x,h.1,rfl⟩
 ·rintro (⟨x,hx,rfl⟩ | ⟨x,hx,rfl⟩)
  ·exact ⟨x,qjh.2 (Or.inl hx),rfl⟩
  ·by_cases h:x.1 ∈ qbg a.toList
   ·obtain ⟨y,hy,e⟩:=List.mem_map.1 h
    exact ⟨y,qjh.2 (Or.inl hy),e⟩
   ·exact ⟨x,qjh.2 (Or.inr ⟨hx,h⟩),rfl⟩
theorem srtA_up {d:Array (Int×Int)} (h:(qbg d.toList).Nodup):(srtA d).toList.Pairwise (fun x y=>x.1 < y.1):=by
 have hs:(srtA d).toList.Pairwise (fun x y=>(!qae y x)=true):=by
  unfold srtA
  refine List.pairwise_mergeSort (fun a b c h1 h2=>?_) (fun a b=>?_) d.toList
  ·obtain ⟨a1,a2⟩:=a;obtain ⟨b1,b2⟩:=b;obtain ⟨c1,c2⟩:=c
   unfold qae at *
   simp at *
   omega
  ·obtain ⟨a1,a2⟩:=a;obtain ⟨b1,b2⟩:=b
   unfold qae
   simp
   omega
 have hn:(qbg (srtA d).toList).Nodup:=by
  have hp:(srtA d).toList.Perm d.toList:=by unfold srtA;exact List.mergeSort_perm d.toList _
  exact ((hp.map (fun x:Int×Int=>x.1)).nodup_iff).2 h
 have hn':(srtA d).toList.Pairwise (fun x y=>x.1≠y.1):=by
  have:=hn
  unfold qbg at this
  exact (List.pairwise_map.1 this)
 refine (hs.and hn').imp ?_
 rintro ⟨x1,x2⟩ ⟨y1,y2⟩ ⟨h1,h2⟩
 unfold qae at h1
 simp at h1 h2 ⊢
 omega
theorem qma {l:List (Int×Int)} (h:l.Pairwise (fun x y=>x.1 < y.1)):(qbg l).Nodup:=by
 unfold qbg
 exact List.pairwise_map.2 (h.imp (fun h=>Int.ne_of_lt h))
theorem up_inj:∀ {l:List (Int×Int)},l.Pairwise (fun x y=>x.1 < y.1)→∀ {x y:Int×Int},x ∈ l→y ∈ l→x.1=y.1→x=y
 | [],_,_,_,hx,_,_=>by cases hx
 | z :: l,h,x,y,hx,hy,e=>by
   obtain ⟨h1,h2⟩:=List.pairwise_cons.1 h
   rcases List.mem_cons.1 hx with e1 | hx'
   ·rcases List.mem_cons.1 hy with e2 | hy'
    ·rw [e1,e2]
    ·have:=h1 y hy';rw [e1] at e;omega
   ·rcases List.mem_cons.1 hy with e2 | hy'
    ·have:=h1 x hx';rw [e2] at e;omega
    ·exact up_inj h2 hx' hy' e
theorem mrgK_up {a b:Array (Int×Int)} (ha:a.toList.Pairwise (fun x y=>x.1 < y.1)) (hb:b.toList.Pairwise (fun x y=>x.1 < y.1)):(mrgK a b).toList.Pairwise (fun x y=>x.1 < y.1):=by
 unfold mrgK
 refine srtA_up ?_
 show (qbg (a.toList ++ _)).Nodup
 unfold qbg
 rw [List.map_append]
 refine List.nodup_append.2 ⟨qma ha,qma (hb.filter _),fun x hx y hy e=>?_⟩
 obtain ⟨z,hz,rfl⟩:=List.mem_map.1 hy
 have:=(List.mem_filter.1 hz).2
 simp at this
 obtain ⟨u,hu,e'⟩:=List.mem_map.1 hx
 exact this u.2 (by have:(u.1,u.2)=(z.1,u.2):=by rw [e',e]
                    rw [←this];simpa using hu)
theorem qrc {d:Array (Int×Int)} (h:d.toList.Pairwise (fun x y=>x.1 < y.1)):srtA d=d:=by
 unfold srtA
 rw [List.mergeSort_of_pairwise]
 refine h.imp ?_
 rintro ⟨x1,x2⟩ ⟨y1,y2⟩ h
 unfold qae
 simp at h ⊢
 omega
def betL (lo hi:Int):Int→List Int→List (Int×Int)
 | at',[]=>[(at',hi)]
 | at',t :: l=>if lo < t∧t≤hi then (at',t - 1) :: betL lo hi (t + 1) l else betL lo hi at' l
theorem qpk (lo hi:Int):∀ (l:List Int) (at':Int),(betL lo hi at' l).length≤l.length + 1
 | [],_=>by simp [betL]
 | t :: l,at'=>by
   rw [betL]
   have h1:=qpk lo hi l (t + 1)
   have h2:=qpk lo hi l at'
   split <;> simp <;> omega
theorem qth (lo hi n:Int):∀ (l:List Int) (at':Int),l.Pairwise (· < ·)→lo < at'→(∀ t ∈ l,lo < t→t≤hi→at'≤t)→((betL lo hi at' l).any (qde n)=true↔(at'≤n∧n≤hi)∧n ∉ l)
 | [],at',_,_,_=>by rw [betL];simp [qde]
 | t :: l,at',hp,ha,hb=>by
   obtain ⟨h1,h2⟩:=List.pairwise_cons.1 hp
   rw [betL]
   split
   ·rename_i ht
    have hat:=hb t (by simp) ht.1 ht.2
    rw [any_cons,qth lo hi n l (t + 1) h2 (by omega) (fun u hu _ _=>by have:=h1 u hu;omega),List.mem_cons,not_or]
    constructor
    ·rintro (h | h)
     ·refine ⟨⟨h.1,?_⟩,?_,fun hm=>?_⟩
      ·have:=h.2;simp at this;omega
      ·have:=h.2;simp at this;omega
      ·have:=h1 n hm;have:=h.2;simp at this;omega
     ·exact ⟨⟨by omega,h.1.2⟩,by omega,h.2⟩
    ·rintro ⟨h3,h4,h5⟩
     by_cases hc:n < t
     ·exact Or.inl ⟨h3.1,by simp;omega⟩
     ·exact Or.inr ⟨⟨by omega,h3.2⟩,h5⟩
   ·rename_i ht
    rw [qth lo hi n l at' h2 ha (fun u hu=>hb u (by simp [hu])),List.mem_cons,not_or]
    constructor
    ·rintro ⟨h3,h4⟩
     exact ⟨h3,by omega,h4⟩
    ·rintro ⟨h3,h4,h5⟩
     exact ⟨h3,h5⟩
theorem qti (lo hi:Int):∀ (l:List Int) (at':Int),∀ x ∈ betL lo hi at' l,x.2≤hi
 | [],at',x,hx=>by rw [betL] at hx;simp at hx;subst hx;exact Int.le_refl _
 | t :: l,at',x,hx=>by
   rw [betL] at hx
   split at hx
   ·rename_i h
    rcases List.mem_cons.1 hx with rfl | hx
    ·show t - 1≤hi;omega
    ·exact qti lo hi l _ x hx
   ·exact qti lo hi l _ x hx
def qtj (base lo hi:Int) (told:List Int):Array (Int×Int):=((betL lo hi (lo + 1) told).map fun r=>(max r.1 (base + 1),r.2)).toArray
theorem moreK_in (base lo hi n:Int) (told:List Int) (hp:told.Pairwise (· < ·)):inR (qtj base lo hi told) n=true↔(max lo base < n∧n≤hi)∧n ∉ told:=by
 have e:inR (qtj base lo hi told) n=true↔base < n∧(betL lo hi (lo + 1) told).any (qde n)=true:=by
  unfold qtj inR
  simp only [List.any_map,List.any_eq_true,Function.comp,qek]
  constructor
  ·rintro ⟨x,hx,h1,h2⟩
   exact ⟨by omega,x,hx,by omega,h2⟩
  ·rintro ⟨h0,x,hx,h1,h2⟩
   exact ⟨x,hx,by omega,h2⟩
 rw [e,qth lo hi n told (lo + 1) hp (by omega) (fun t _ h _=>by omega)]
 constructor
 ·rintro ⟨h0,⟨h1,h2⟩,h3⟩
  exact ⟨⟨by omega,h2⟩,h3⟩
 ·rintro ⟨⟨h1,h2⟩,h3⟩
  exact ⟨by omega,⟨by omega,h2⟩,h3⟩
def pK (k:KN) (lo hi:Int) (atts:Array (Int×Int)) (n:Int):Bool:=inR k.rs n || (decide (max lo k.base < n∧n≤hi) && !(qbg atts.toList).contains n && !(qbg k.ats.toList).contains n)
theorem qif {k:KN} {lo hi:Int} {atts:Array (Int×Int)} {n:Int}:pK k lo hi atts n=true↔inR k.rs n=true∨((max lo k.base < n∧n≤hi)∧n ∉ qbg atts.toList∧n ∉ qbg k.ats.toList):=by
 unfold pK
 simp [and_assoc]
def qhd (k:KN) (atts:Array (Int×Int)):Array (Int×Int):=(atts.toList.filter fun a=>!(decide (a.1≤k.base) || inR k.rs a.1)).toArray
def allK (k:KN) (atts:Array (Int×Int)):Array (Int×Int):=mrgK k.ats (qhd k atts)
theorem qrd {k:KN} {atts:Array (Int×Int)} {x:Int×Int}:x ∈ (qhd k atts).toList↔x ∈ atts.toList∧k.base < x.1∧inR k.rs x.1=false:=by
 unfold qhd
 simp
theorem qre (k:KN) (atts:Array (Int×Int)):(allK k atts).size≤k.ats.size + atts.size:=by
 have h1:=qlz k.ats (qhd k atts)
 have h2:(qhd k atts).size≤atts.size:=by
  unfold qhd
  have:=List.length_filter_le (fun a:Int×Int=>!(decide (a.1≤k.base) || inR k.rs a.1)) atts.toList
  simpa using this
 unfold allK
 omega
theorem more_p {k:KN} {lo hi:Int} {atts:Array (Int×Int)} (hk:ChkP k) (h1:hi≤1000000) (ha:qdg hi lo atts.toList=true) (n:Int) :
 pAdd k.rs (qtj k.base lo hi (qbg (mrgK atts k.ats).toList)) n=pK k lo hi atts n:=by
 have hu:=mrgK_up ((qbq _ _ _).1 ha).1 ((qbq _ _ _).1 hk.up).1
 have hp:(qbg (mrgK atts k.ats).toList).Pairwise (· < ·):=List.pairwise_map.2 hu
 rw [Bool.eq_iff_iff,qif]
 unfold pAdd
 rw [Bool.and_eq_true,Bool.or_eq_true,qjo,moreK_in _ _ _ _ _ hp,qxi,not_or]
 have hb:=hk.b0
 constructor
 ·rintro ⟨_,h⟩
  exact h
 ·intro h
  refine ⟨?_,h⟩
  rcases h with h | h
  ·exact qis (NL.of_set hk.rs) h
  ·omega
def cutL (b:Int):List (Int×Int)→List (Int×Int)
 | []=>[]
 | x :: l=>if x.2≤b then cutL b l else (max x.1 (b + 1),x.2) :: l
theorem qvc (b:Int):∀ l,(cutL b l).length≤l.length
 | []=>Nat.le_refl _
 | x :: l=>by
   rw [cutL]
   have:=qvc b l
   split
   ·simp;omega
   ·simp
theorem cutL_ok {b:Int} (hb:0≤b):∀ {l:List (Int×Int)},NL l→NL (cutL b l)∧∀ n,(cutL b l).any (qde n)=(l.any (qde n) && decide (b < n))
 | [],_=>⟨⟨by simp [cutL],by simp [cutL]⟩,by simp [cutL]⟩
 | x :: l,h=>by
   rw [cutL]
   have hx:=h.1 x (by simp)
   have hgt:=(List.pairwise_cons.1 h.2).1
   split
   ·rename_i hc
    obtain ⟨h1,h2⟩:=cutL_ok hb h.tail
    refine ⟨h1,fun n=>?_⟩
    rw [h2 n,Bool.eq_iff_iff,Bool.and_eq_true,Bool.and_eq_true,any_cons,decide_eq_true_eq]
    constructor
    ·rintro ⟨h3,h4⟩
     exact ⟨Or.inr h3,h4⟩
    ·rintro ⟨h3 | h3,h4⟩
     ·omega
     ·exact ⟨h3,h4⟩
   ·rename_i hc
    refine ⟨⟨fun y hy=>?_,List.pairwise_cons.2 ⟨fun y hy=>hgt y hy,(List.pairwise_cons.1 h.2).2⟩⟩,fun n=>?_⟩
    ·rcases List.mem_cons.1 hy with rfl | hy
     ·show 1≤max x.1 (b + 1)∧max x.1 (b + 1)≤x.2∧x.2≤1000000
      omega
     ·exact h.1 y (by simp [hy])
    ·rw [Bool.eq_iff_iff,Bool.and_eq_true,any_cons,any_cons,decide_eq_true_eq]
     constructor
     ·rintro (h3 | h3)
      ·have h4:max x.1 (b + 1)≤n:=h3.1
       exact ⟨Or.inl ⟨by omega,h3.2⟩,by omega⟩
      ·have:=h.gt h3
       exact ⟨Or.inr h3,by omega⟩
     ·rintro ⟨h3 | h3,h4⟩
      ·exact Or.inl ⟨show max x.1 (b + 1)≤n by omega,h3.2⟩
      ·exact Or.inr h3
theorem qji {d out:Array (Int×Int)} {b:Int} (hs:qam d=0) (hb:0≤b) (h:LessE d (1,b) out):IsN (fun n=>inR d n && decide (b < n)) out∧out.size≤d.size:=by
 obtain ⟨s,h1,h2⟩:=h.1 hs
 have hn:=NL.of_set hs
 have hc:=cutL_ok hb hn
 have h3:IsN (fun n=>inR d n && decide (b < n)) (cutL b d.toList).toArray:=⟨hc.1,fun n=>hc.2 n⟩
 have h4:IsN (fun n=>inR d n && decide (b < n)) s:=h1.congr fun n=>by
  unfold qpu
  by_cases hi:inR d n=true
  ·have:=qis hn hi
   rw [hi,Bool.eq_iff_iff]
   simp [qde]
   omega
  ·rw [Bool.not_eq_true] at hi
   rw [hi];rfl
 have h5:s=(cutL b d.toList).toArray:=h4.uniq h3
 have h6:s.size≤d.size:=by
  rw [h5]
  have:=qvc b d.toList
  simpa using this
 have h7:=(qdm hs).1
 rw [if_pos (by omega)] at h2
 subst h2
 exact ⟨h4,h6⟩
structure FormR (l:Array (Int×Int)) (base:Int) (ats:Array (Int×Int)) (r:KN):Prop where
 b:r.base=preE l base
 rs:LessE l (1,r.base) r.rs
 at':r.ats=ats
theorem FormR.uniq {l:Array (Int×Int)} {base:Int} {ats:Array (Int×Int)} {r s:KN} (h:FormR l base ats r) (k:FormR l base ats s):r=s:=by
 obtain ⟨rb,rr,ra⟩:=r
 obtain ⟨sb,sr,sa⟩:=s
 have e1:rb=sb:=h.b.trans k.b.symm
 subst e1
 have e2:rr=sr:=h.rs.uniq k.rs
 have e3:ra=sa:=h.at'.trans k.at'.symm
 rw [e2,e3]
structure FormO (l:Array (Int×Int)) (base:Int) (ats:Array (Int×Int)) (r:KN):Prop where
 chk:ChkP r
 up:base≤r.base
 sz:r.rs.size≤l.size
 eat:r.ats=ats
 has:∀ n,hasK r n=true↔(1≤n∧n≤base)∨inR l n=true
 gt:∀ a ∈ ats.toList,r.base < a.1
 out:∀ n,inR r.rs n=(inR l n && decide (r.base < n))
 nx:inR l (r.base + 1)=false
theorem FormR.ok {l:Array (Int×Int)} {base:Int} {ats:Array (Int×Int)} {r:KN} (h:FormR l base ats r) (hs:qam l=0) (b0:0≤base) (b1:base≤1000000) (hz:ats.size≤400) (hu:qdg 1000000 base ats.toList=true) (ho:∀ a ∈ ats.toList,inR l a.1=false):FormO l base ats r:=by
 obtain ⟨p1,p2,p3,p4⟩:=qmm hs base
 rw [←h.b] at p1 p2 p3 p4
 have hN:=NL.of_set hs
 obtain ⟨q1,q2⟩:=qji hs (by omega) h.rs
 have hl:=(qdm hs).1
 have hset:qam r.rs=0:=q1.set (by omega)
 have hr:=(qbq _ _ _).1 hu
 have hgt:∀ a ∈ ats.toList,r.base < a.1:=fun a ha=>by
  have h1:=ho a ha
  have h2:=hr.2 a ha
  by_cases hc:r.base < a.1
  ·exact hc
  ·have:=p3 a.1 h2.1 (by omega)
   rw [h1] at this
   cases this
 have hout:∀ n,inR r.rs n=(inR l n && decide (r.base < n)):=q1.2
 have hck:ChkP r:=by
  refine ⟨by omega,by omega,hset,by rw [h.at'];exact hz,?_,fun h0=>?_,fun a ha=>?_⟩
  ·rw [h.at']
   exact (qbq _ _ _).2 ⟨hr.1,fun x hx=>⟨hgt x hx,(hr.2 x hx).2⟩⟩
  ·have h1:=ok_at hset h0
   have h2:inR r.rs r.rs[0]!.1=true:=qtt h0 (by unfold qde;simp;omega)
   rw [hout,Bool.and_eq_true,decide_eq_true_eq] at h2
   by_cases hc:r.rs[0]!.1=r.base + 1
   ·rw [hc,p4] at h2
    cases h2.1
   ·omega
  ·rw [h.at'] at ha
   rw [hout,ho a ha]
   rfl
 refine ⟨hck,p1,q2,h.at',fun n=>?_,hgt,hout,p4⟩
 rw [hasK_iff hck,hout,Bool.and_eq_true,decide_eq_true_eq]
 constructor
 ·rintro (h1 | h1)
  ·by_cases hc:n≤base
   ·exact Or.inl ⟨h1.1,hc⟩
   ·exact Or.inr (p3 n (by omega) h1.2)
  ·exact Or.inr h1.1
 ·rintro (h1 | h1)
  ·exact Or.inl ⟨h1.1,by omega⟩
  ·by_cases hc:r.base < n
   ·exact Or.inr ⟨h1,hc⟩
   ·exact Or.inl ⟨(qis hN h1).1,by omega⟩
def AddR (k:KN) (lo hi:Int) (atts:Array (Int×Int)) (r:KN):Prop:=∃ l,IsN (pK k lo hi atts) l∧l.size≤1000∧FormR l k.base (allK k atts) r
theorem AddR.uniq {k:KN} {lo hi:Int} {atts:Array (Int×Int)} {r s:KN} (h:AddR k lo hi atts r) (g:AddR k lo hi atts s):r=s:=by
 obtain ⟨l,h1,_,h2⟩:=h
 obtain ⟨m,g1,_,g2⟩:=g
 have:=h1.uniq g1
 subst this
 exact h2.uniq g2
structure AddA (k:KN) (lo hi:Int) (atts:Array (Int×Int)):Prop where
 chk:ChkP k
 lo0:0≤lo
 le:lo≤hi
 hi1:hi≤1000000
 up:qdg hi lo atts.toList=true
def addB (k:KN) (lo hi:Int) (atts:Array (Int×Int)):Bool:=chkB k && decide (0≤lo∧lo≤hi∧hi≤1000000) && qdg hi lo atts.toList
theorem qmb {k:KN} {lo hi:Int} {atts:Array (Int×Int)}:addB k lo hi atts=true↔AddA k lo hi atts:=by
 unfold addB
 rw [Bool.and_eq_true,Bool.and_eq_true,decide_eq_true_eq,qdp]
 constructor
 ·rintro ⟨⟨h1,h2,h3,h4⟩,h5⟩
  exact ⟨h1,h2,h3,h4,h5⟩
 ·rintro ⟨h1,h2,h3,h4,h5⟩
  exact ⟨⟨h1,h2,h3,h4⟩,h5⟩
theorem qfa {k:KN} {atts:Array (Int×Int)} {x:Int×Int}:x ∈ (allK k atts).toList↔x ∈ k.ats.toList∨(x ∈ atts.toList∧k.base < x.1∧inR k.rs x.1=false∧x.1 ∉ qbg k.ats.toList):=by
 unfold allK
 rw [qjh,qrd]
 simp [and_assoc]
theorem allK_up {k:KN} {lo hi:Int} {atts:Array (Int×Int)} (h:AddA k lo hi atts):qdg 1000000 k.base (allK k atts).toList=true:=by
 have h1:=(qbq _ _ _).1 h.chk.up
 have h2:=(qbq _ _ _).1 h.up
 have hh:=h.hi1
 refine (qbq _ _ _).2 ⟨?_,fun x hx=>?_⟩
 ·unfold allK
  refine mrgK_up h1.1 ?_
  show (List.filter _ _).Pairwise _
  exact h2.1.filter _
 ·rcases qfa.1 hx with hx | ⟨hx,hb,_,_⟩
  ·exact h1.2 x hx
  ·have:=h2.2 x hx
   exact ⟨hb,by omega,this.2.2⟩
theorem allK_out {k:KN} {lo hi:Int} {atts:Array (Int×Int)} (h:AddA k lo hi atts):∀ a ∈ (allK k atts).toList,pK k lo hi atts a.1=false:=fun a ha=>by
 rw [Bool.eq_false_iff,Ne,qif]
 rintro (h1 | ⟨_,h1,h2⟩)
 ·rcases qfa.1 ha with hx | ⟨_,_,hx,_⟩
  ·rw [h.chk.out a hx] at h1;cases h1
  ·rw [hx] at h1;cases h1
 ·rcases qfa.1 ha with hx | ⟨hx,_⟩
  ·exact h2 (List.mem_map.2 ⟨a,hx,rfl⟩)
  ·exact h1 (List.mem_map.2 ⟨a,hx,rfl⟩)
theorem AddR.ok {k r:KN} {lo hi:Int} {atts:Array (Int×Int)} (h:AddA k lo hi atts) (hr:AddR k lo hi atts r) (hz:k.ats.size + atts.size≤400):∃ l,IsN (pK k lo hi atts) l∧l.size≤1000∧FormO l k.base (allK k atts) r:=by
 obtain ⟨l,h1,h2,h3⟩:=hr
 have:=qre k atts
 exact ⟨l,h1,h2,h3.ok (h1.set h2) h.chk.b0 h.chk.b1 (by omega) (allK_up h) (fun a ha=>(h1.2 a.1).trans (allK_out h a ha))⟩
theorem AddR.again {k a b:KN} {lo hi:Int} {atts:Array (Int×Int)} (h:AddA k lo hi atts) (ha:AddR k lo hi atts a) (hz:k.ats.size + atts.size≤400) (hb:AddR a lo hi atts b):b=a:=by
 obtain ⟨l,h1,h2,h3⟩:=ha.ok h hz
 obtain ⟨m,g1,g2,g3⟩:=hb
 have hA:AddA a lo hi atts:=⟨h3.chk,h.lo0,h.le,h.hi1,h.up⟩
 have hat:=h3.eat
 have hup:=h3.up
 have hl:∀ n,inR l n=pK k lo hi atts n:=h1.2
 have ht:∀ n,n ∉ qbg atts.toList→(n ∉ qbg a.ats.toList↔n ∉ qbg k.ats.toList):=fun n hn=>by
  constructor
  ·intro h4 h5
   obtain ⟨x,hx,e⟩:=List.mem_map.1 h5
   exact h4 (List.mem_map.2 ⟨x,by rw [hat];exact qfa.2 (Or.inl hx),e⟩)
  ·intro h4 h5
   obtain ⟨x,hx,e⟩:=List.mem_map.1 h5
   rw [hat] at hx
   rcases qfa.1 hx with hx | hx
   ·exact h4 (List.mem_map.2 ⟨x,hx,e⟩)
   ·exact hn (List.mem_map.2 ⟨x,hx.1,e⟩)
 -- the set stays
 have hp:∀ n,pK a lo hi atts n=inR a.rs n:=fun n=>by
  rw [Bool.eq_iff_iff,qif]
  constructor
  ·rintro (h4 | ⟨h4,h5,h6⟩)
   ·exact h4
   ·rw [h3.out,Bool.and_eq_true,decide_eq_true_eq,hl,qif]
    exact ⟨Or.inr ⟨⟨by omega,h4.2⟩,h5,(ht n h5).1 h6⟩,by omega⟩
  ·exact Or.inl
 have hm:m=a.rs:=(g1.congr hp).uniq ⟨NL.of_set h3.chk.rs,fun _=>rfl⟩
 subst hm
 have hpre:preE a.rs a.base=a.base:=by
  obtain ⟨p1,_,p3,_⟩:=qmm h3.chk.rs a.base
  by_cases hc:a.base < preE a.rs a.base
  ·have h4:=p3 (a.base + 1) (by omega) (by omega)
   rw [h3.out,h3.nx] at h4
   cases h4
  ·omega
 have hall:allK a atts=a.ats:=by
  have e:qhd a atts=(atts.toList.filter fun x=>!(decide (x.1≤a.base) || inR a.rs x.1)).toArray:=rfl
  have:((qhd a atts).toList.filter fun x=>!(qbg a.ats.toList).contains x.1)=[]:=by
   rw [List.filter_eq_nil_iff]
   intro x hx
   obtain ⟨hx1,hx2,hx3⟩:=qrd.1 hx
   simp only [Bool.not_eq_false,List.contains_iff_mem,Bool.not_eq_eq_eq_not,Bool.not_true]
   by_cases hc:x.1 ∈ qbg k.ats.toList
   ·obtain ⟨y,hy,e⟩:=List.mem_map.1 hc
    exact List.mem_map.2 ⟨y,by rw [hat];exact qfa.2 (Or.inl hy),e⟩
   ·have hin:inR k.rs x.1=false:=by
     rw [h3.out,Bool.and_eq_false_iff] at hx3
     rcases hx3 with hx3 | hx3
     ·rw [hl] at hx3
      rw [Bool.eq_false_iff]
      intro h5
      rw [Bool.eq_false_iff] at hx3
      exact hx3 (qif.2 (Or.inl h5))
     ·simp at hx3;omega
    exact List.mem_map.2 ⟨x,by rw [hat];exact qfa.2 (Or.inr ⟨hx1,by omega,hin,hc⟩),rfl⟩
  unfold allK mrgK
  rw [this,List.append_nil]
  refine (qrc (d:=a.ats.toList.toArray) ?_).trans (by simp)
  exact ((qbq _ _ _).1 h3.chk.up).1
 have e1:b.base=a.base:=g3.b.trans hpre
 have e2:b.rs=a.rs:=by
  have h4:=g3.rs
  rw [e1] at h4
  obtain ⟨q1,_⟩:=qji h3.chk.rs h3.chk.b0 h4
  refine q1.uniq ⟨NL.of_set h3.chk.rs,fun n=>?_⟩
  show inR a.rs n=(inR a.rs n && decide (a.base < n))
  rw [h3.out]
  cases inR l n <;> cases decide (a.base < n) <;> rfl
 have e3:b.ats=a.ats:=g3.at'.trans hall
 obtain ⟨bb,br,ba⟩:=b
 obtain ⟨ab,ar,aa⟩:=a
 cases e1;cases e2;cases e3
 rfl
def qfq (ids:Array Int) (a:Int×Int):Bool:=ids.toList.contains a.2
def qgm (k:KN) (ids:Array Int):Array (Int×Int):=(k.ats.toList.filter fun a=>!qfq ids a).toArray
def pS (k:KN) (ids:Array Int) (n:Int):Bool:=inR k.rs n || k.ats.toList.any fun a=>qfq ids a && (a.1 == n)
def qxj (k:KN) (ids:Array Int):Array (Int×Int):=((k.ats.toList.filter (qfq ids)).map fun a=>(a.1,a.1)).toArray
def SetR (k:KN) (ids:Array Int) (r:KN):Prop:=∃ l,IsN (pS k ids) l∧l.size≤1000∧FormR l k.base (qgm k ids) r
theorem SetR.uniq {k:KN} {ids:Array Int} {r s:KN} (h:SetR k ids r) (g:SetR k ids s):r=s:=by
 obtain ⟨l,h1,_,h2⟩:=h
 obtain ⟨m,g1,_,g2⟩:=g
 have:=h1.uniq g1
 subst this
 exact h2.uniq g2
theorem qmc {k:KN} {ids:Array Int} {n:Int}:pS k ids n=true↔inR k.rs n=true∨∃ a ∈ k.ats.toList,a.2 ∈ ids.toList∧a.1=n:=by
 unfold pS qfq
 simp only [Bool.or_eq_true,List.any_eq_true,Bool.and_eq_true,List.contains_iff_mem,beq_iff_eq]
theorem setl_p {k:KN} {ids:Array Int} (hk:ChkP k) (n:Int):pAdd k.rs (qxj k ids) n=pS k ids n:=by
 have hr:=(qbq _ _ _).1 hk.up
 have hb:=hk.b0
 have e:inR (qxj k ids) n=true↔∃ a ∈ k.ats.toList,a.2 ∈ ids.toList∧a.1=n:=by
  unfold qxj inR qfq
  simp only [List.any_map,List.any_eq_true,Function.comp,qek,List.mem_filter,List.contains_iff_mem]
  constructor
  ·rintro ⟨x,⟨hx,h1⟩,h2,h3⟩
   exact ⟨x,hx,h1,by omega⟩
  ·rintro ⟨x,hx,h1,rfl⟩
   exact ⟨x,⟨hx,h1⟩,Int.le_refl _,Int.le_refl _⟩
 rw [Bool.eq_iff_iff,qmc,←e]
 unfold pAdd
 rw [Bool.and_eq_true,Bool.or_eq_true,qjo]
 refine ⟨fun h=>h.2,fun h=>⟨?_,h⟩⟩
 rcases h with h | h
 ·exact qis (NL.of_set hk.rs) h
 ·obtain ⟨a,ha,_,rfl⟩:=e.1 h
  have:=hr.2 a ha
  omega
theorem SetR.ok {k r:KN} {ids:Array Int} (h:ChkP k) (hr:SetR k ids r):∃ l,IsN (pS k ids) l∧l.size≤1000∧FormO l k.base (qgm k ids) r:=by
 obtain ⟨l,h1,h2,h3⟩:=hr
 have hu:=(qbq _ _ _).1 h.up
 have hz:(qgm k ids).size≤400:=by
  have h4:=List.length_filter_le (fun a=>!qfq ids a) k.ats.toList
  have h5:=h.sz
  unfold qgm
  simp at h4 ⊢
  omega
 refine ⟨l,h1,h2,h3.ok (h1.set h2) h.b0 h.b1 hz ?_ ?_⟩
 ·refine (qbq _ _ _).2 ⟨hu.1.filter _,fun x hx=>hu.2 x (List.mem_filter.1 hx).1⟩
 ·intro a ha
  obtain ⟨h4,h5⟩:=List.mem_filter.1 (show a ∈ k.ats.toList.filter _ from ha)
  rw [h1.2,Bool.eq_false_iff,Ne,qmc]
  rintro (h6 | ⟨x,hx,h7,h8⟩)
  ·rw [h.out a h4] at h6;cases h6
  ·have hxa:x=a:=up_inj hu.1 hx h4 h8
   subst hxa
   simp [qfq] at h5
   exact h5 (by simpa using h7)
end Go.Proofs.YtlkmagmdhopcjaaGreat
namespace Go.Proofs.YtlkmagmdhopcjaaGreat
open Go.RowKit Go.Sort Go.Lib
theorem qgd {α:Type} [Inhabited α] (d:Array α) (k:Nat) (h:k < d.size):d.toList.drop k=d[k]! :: d.toList.drop (k + 1):=by
 rw [List.drop_eq_getElem_cons (by simpa using h),getElem!_pos d k h];rfl
theorem qxk (id:Int):qef id=if okI id=true then 0 else 31:=by
 unfold qef okI
 by_cases h:id < 10∨999999 < id∨id % 10=0
 ·rw [if_pos h,if_neg (by simp;omega)]
 ·rw [if_neg h,if_pos (by simp;omega)]
theorem qxl (id:Int):(qef id != 0) = !okI id:=by rw [qxk];cases okI id <;> rfl
def RiseR (lo hi:Int) (d:Array (Int×Int)) (w:World) (lv iv:Value) (wr:World):Prop:=∃ (k:Nat) (last:Int),iv=.int .i64 (k:Int)∧lv=.int .i64 last∧k≤d.size∧qdg hi lo d.toList=qdg hi last (d.toList.drop k)∧Below w.heap.size w wr
set_option maxRecDepth 100000 in
set_option maxHeartbeats 1000000 in
theorem qpl (A:Option Addr) (c:Nat) (d:Array (Int×Int)) (lo hi:Int) (w:World) (h:RdK qaf 2 w.heap.size w A d) (hs:d.size≤1000000) :
 Calls Tryz.prog 68 #[.slice A d.size c,.int .i64 lo,.int .i64 hi] w fun e w'=>e=.returned (.bool (qdg hi lo d.toList))∧Below w.heap.size w w':=by
 have HR:=hI h
 clear h
 go_enter Tryz.func68,Tryz.ntmps68
 go_wp2
 go_loopw [7,13] (fun lv iv wr=>RiseR lo hi d w lv iv wr) (fun _ i _=>d.size - (intOf i).toNat)
 case atStart=>exact ⟨0,lo,rfl,rfl,Nat.zero_le _,rfl,Below.refl _ _⟩
 case round =>
  obtain ⟨k,last,rfl,rfl,hk,hat,hB⟩:=hrel
  have HAT:=hI hat
  have HB:=hI hB
  clear hat hB
  by_cases hlt:k < d.size
  ·have kz:(k:Int) < (d.size:Int):=by omega
   obtain ⟨b,off,rfl,hbl,f⟩:=(HR.out.below HB.out).at_ hlt
   have e0:=f 0 (by omega)
   have e1:=f 1 (by omega)
   have HD:=hI (qgd d k hlt)
   generalize d[k]! = x at e0 e1 HD
   simp only [Nat.add_zero,qaf,List.getElem!_cons_zero,List.getElem!_cons_succ] at e0 e1
   clear f
   have HI:=hI (fun W=>qcb x.2 W)
   have hne:=qxl x.2
   cases hid:okI x.2
   ·rw [hid] at hne
    have HF:Hid (qdg hi lo d.toList=false):=by show _=_;rw [HAT.out,HD.out];simp [qdg,hid]
    clear hid
    go_wp2_with (go_at_call 130;refine (HI.out _).mono ?_;rintro e w' ⟨rfl,rfl⟩)
    all_goals
     go_ret
     exact ⟨qac (by rw [HF.out]),qab HB.out _⟩
   ·rw [hid] at hne
    by_cases hr:last < x.1∧x.1≤hi
    ·have h1:decide (x.1≤last)=false:=by simp;omega
     have h2:decide (hi < x.1)=false:=by simp;omega
     have HN:Hid (qdg hi lo d.toList=qdg hi x.1 (d.toList.drop (k + 1))):=by show _=_;rw [HAT.out,HD.out];simp [qdg,hid,hr]
     clear hid hr
     go_wp2_with (go_at_call 130;refine (HI.out _).mono ?_;rintro e w' ⟨rfl,rfl⟩)
     go_roundw
     case rel=>exact ⟨k + 1,x.1,by go_num,rfl,by omega,HN.out,qab HB.out _⟩
     case measure=>simp [intOf];omega
    ·have HF:Hid (qdg hi lo d.toList=false):=by show _=_;rw [HAT.out,HD.out];simp [qdg];intro h1 h2;omega
     clear hid
     by_cases h1:x.1≤last
     ·clear hr
      go_wp2
      go_ret
      exact ⟨qac (by rw [HF.out]),qab HB.out _⟩
     ·have h2:hi < x.1:=by omega
      have h1':decide (x.1≤last)=false:=by simp;omega
      clear hr h1
      go_wp2
      go_ret
      exact ⟨qac (by rw [HF.out]),qab HB.out _⟩
  ·have hlt':decide ((k:Int) < (d.size:Int))=false:=by simp;omega
   have HE:Hid (qdg hi lo d.toList=true):=by
    show _=_
    rw [HAT.out,List.drop_of_length_le (by simp;omega)];rfl
   go_wp2
   go_ret
   exact ⟨qac HE.out.symm,HB.out⟩
end Go.Proofs.YtlkmagmdhopcjaaGreat
namespace Go.Proofs.YtlkmagmdhopcjaaGreat
open Go.RowKit Go.Sort Go.Lib
def atK (d:Array (Int×Int)) (n:Int):Bool:=(qbg d.toList).contains n
end Go.Proofs.YtlkmagmdhopcjaaGreat
namespace Go.Proofs.YtlkmagmdhopcjaaGreat
open Go.RowKit Go.Sort Go.Lib
set_option maxRecDepth 100000 in
set_option maxHeartbeats 4000000 in
theorem qtk (lo hi:Int) (A:Option Addr) (c:Nat) (d:Array Int) (w:World) (h:RdI_R w.heap.size w A d) (h0:0≤lo) (h1:lo≤1000000) (h2:hi≤1000000) (hd:d.size≤100000) :
 Calls Tryz.prog 74 #[.int .i64 lo,.int .i64 hi,.slice A d.size c] w fun e w'=>∃ v,e=.returned v∧w'.ownsRow w.heap.size 124 2 v (betL lo hi (lo + 1) d.toList).toArray.size (flatK encR 2 (betL lo hi (lo + 1) d.toList).toArray).toList∧Below w.heap.size w w':=by
 obtain ⟨i0,hi0,hz0,hz1,hz2⟩:=info_parts qfh
 have HR:=hI h
 clear h
 go_enter Tryz.func74,Tryz.ntmps74
 go_wp2
 go_loopw [7,8,15] (fun m a i wr=>∃ (k:Nat) (out:Array (Int×Int)) (at':Int),i=.int .i64 k∧a=.int .i64 at'∧k≤d.size∧out.size≤k∧lo < at'∧at'≤1000001∧betL lo hi (lo + 1) d.toList=out.toList ++ betL lo hi at' (d.toList.drop k)∧wr.ownsRow w.heap.size 124 2 m out.size (flatK encR 2 out).toList∧Below w.heap.size w wr) (fun _ _ i _=>d.size - (intOf i).toNat)
 case atStart=>exact ⟨0,#[],lo + 1,rfl,rfl,Nat.zero_le _,Nat.le_refl _,by omega,by omega,rfl,qci _ _ _ _ _,Below.refl _ _⟩
 case round =>
  obtain ⟨k,out,at',rfl,rfl,hk,hos,ha1,ha2,he,hown,hB⟩:=hrel
  have HE:=hI he
  have HB:=hI hB
  clear he hB
  obtain ⟨Am,cm,rfl,_,_⟩:=qaw hown
  by_cases hlt:k < d.size
  ·have kz:(k:Int) < (d.size:Int):=by omega
   obtain ⟨b,off,rfl,_,f⟩:=(HR.out.below HB.out).at_ hlt
   have HD:=hI (qgd d k hlt)
   generalize d[k]! = t at f HD
   by_cases ht:lo < t∧t≤hi
   ·have HN:Hid (betL lo hi (lo + 1) d.toList=(out.push (at',t - 1)).toList ++ betL lo hi (t + 1) (d.toList.drop (k + 1))):=by
     show _=_
     rw [HE.out,HD.out,betL,if_pos ht,Array.toList_push,List.append_assoc];rfl
    obtain ⟨t1,t2⟩:=ht
    go_wp2_with (at_builtin;refine wpList_append_own _ rfl _ _ 64 rfl w.heap.size 124 i0 (.agg #[.int .i64 0,.int .i64 0]) 2 16 Tryz.underlying64 hi0 hz0 hz1 hz2 rfl (by decide) _ _ _ rfl (hown.alloc _) ⟨wr.heap.size,0,none⟩ 1 1 [.int .i64 at',.int .i64 (t - 1)] rfl rfl (qes wr _ _ _) (by simp [Value.oneCell']) (by unfold maxLen;omega) (by omega) (by have:=HB.out.size;simp;omega) ?_;intro v' w4 hown' hgrow _)
    exact ⟨⟨k + 1,out.push (at',t - 1),t + 1,by go_num,rfl,by omega,by simp;omega,by omega,by omega,HN.out,(by rw [Array.size_push,qbm qdl];exact hown'),qvr HB.out HB.out.size hown hgrow⟩,by simp [intOf];omega⟩
   ·have HN:Hid (betL lo hi (lo + 1) d.toList=out.toList ++ betL lo hi at' (d.toList.drop (k + 1))):=by
     show _=_
     rw [HE.out,HD.out,betL,if_neg ht]
    have HT:=hI ht
    clear ht
    go_wp2
    all_goals
     first
     | exact absurd ⟨by omega,by omega⟩ HT.out
     | exact ⟨⟨k + 1,out,at',by go_num,rfl,by omega,by omega,ha1,ha2,HN.out,hown,HB.out⟩,by simp [intOf];omega⟩
  ·have hlt':decide ((k:Int) < (d.size:Int))=false:=by simp;omega
   have HN:Hid (betL lo hi (lo + 1) d.toList=(out.push (at',hi)).toList):=by
    show _=_
    rw [HE.out,List.drop_of_length_le (by simp;omega),betL,Array.toList_push]
   go_wp2_with (at_builtin;refine wpList_append_own _ rfl _ _ 64 rfl w.heap.size 124 i0 (.agg #[.int .i64 0,.int .i64 0]) 2 16 Tryz.underlying64 hi0 hz0 hz1 hz2 rfl (by decide) _ _ _ rfl (hown.alloc _) ⟨wr.heap.size,0,none⟩ 1 1 [.int .i64 at',.int .i64 hi] rfl rfl (qes wr _ _ _) (by simp [Value.oneCell']) (by unfold maxLen;omega) (by omega) (by have:=HB.out.size;simp;omega) ?_;intro v' w4 hown' hgrow _)
   go_ret
   refine ⟨_,rfl,?_,qvr HB.out HB.out.size hown hgrow⟩
   rw [HN.out]
   show World.ownsRow _ _ _ _ _ (out.push (at',hi)).size (flatK encR 2 (out.push (at',hi))).toList
   rw [Array.size_push,qbm qdl]
   exact hown'
end Go.Proofs.YtlkmagmdhopcjaaGreat
namespace Go.Proofs.YtlkmagmdhopcjaaGreat
open Go.RowKit Go.Sort Go.Lib
set_option maxRecDepth 100000
set_option maxHeartbeats 1000000 in
theorem qtl (A:Option Addr) (c:Nat) (fv:Value) (w:World) :
 Calls Tryz.prog 148 #[.slice A 0 c,fv] w fun e w'=>e=.returned (.bool false)∧w=w':=by
 go_enter Tryz.func148,Tryz.ntmps148
 go_wp2
 refine wp_loop_rounds 1 ?_;rw [rounds_succ]
 go_wp2
 go_ret
 exact ⟨rfl,rfl⟩
theorem ContA (p:Int×Int→Bool) (g:Nat) (lb:Array Value) (A:Option Addr) (c:Nat) (d:Array (Int×Int)) (w:World) (h:RdK qaf 2 w.heap.size w A d) (hd:d.size≤100000000) (eg:∀ args w,(callFunc g args).run Tryz.prog w=.ok (.enter g args) w) (hp:PredBelow Tryz.prog g lb (fun x:Int×Int=>.agg (qaf x).toArray) p w) :
 Calls Tryz.prog 148 #[.slice A d.size c,.func (.func g) #[] lb] w fun e w'=>e=.returned (.bool (d.toList.any p))∧Below w.heap.size w w':=by
 rcases Nat.eq_zero_or_pos d.size with h0 | h0
 ·have e0:d=#[]:=Array.eq_empty_of_size_eq_zero h0
  subst e0
  exact (qtl A c _ w).mono fun e w' ⟨he,hw⟩=>⟨by rw [he];rfl,by rw [←hw];exact Below.refl _ _⟩
 ·obtain ⟨b,off,rfl,hb,hc⟩:=h h0
  have:=AnyQ.slices_ContainsFunc Tryz.laysContA 2 Tryz.isAgg29 Tryz.sizeOf29 qaf (fun _=>rfl) p g lb eg b off d.size c d.toList w hp (by simp) (by omega) hb (fun j hj i v hv=>by
   have hj':j < d.size:=by simpa using hj
   have hi:i < 2:=by
    rcases Nat.lt_or_ge i 2 with h' | h'
    ·exact h'
    ·rw [List.getElem?_eq_none (by show 2≤i;exact h')] at hv;cases hv
   have e1:d.toList[j]! = d[j]!:=by simp [hj']
   rw [e1] at hv
   rw [Nat.add_assoc,hc _ (qtq hj' hi),qhi _ _ _ _ _ hj' hi]
   rw [List.getElem!_eq_getElem?_getD,hv];rfl)
  rwa [show d.toList.take d.size=d.toList from List.take_of_length_le (by simp)] at this
end Go.Proofs.YtlkmagmdhopcjaaGreat
namespace Go.Proofs.YtlkmagmdhopcjaaGreat
open Go.RowKit Go.Sort Go.Lib
def KnV (w:World) (v:Value) (k:KN):Prop:=∃ A1 c1 A2 c2,v=.agg #[.int .i64 k.base,.slice A1 k.rs.size c1,.slice A2 k.ats.size c2]∧RdK encR 2 w.heap.size w A1 k.rs∧RdK qaf 2 w.heap.size w A2 k.ats∧(A1=none→c1=0)∧(A2=none→c2=0)
theorem KnV.below {w w':World} {v:Value} {k:KN} (h:KnV w v k) (hb:Below w.heap.size w w'):KnV w' v k:=by
 obtain ⟨A1,c1,A2,c2,e,h1,h2,n1,n2⟩:=h
 exact ⟨A1,c1,A2,c2,e,(h1.below hb).mono hb.size,(h2.below hb).mono hb.size,n1,n2⟩
set_option maxRecDepth 100000
set_option maxHeartbeats 1000000 in
theorem form_K (base:Int) (A1:Option Addr) (c1:Nat) (l:Array (Int×Int)) (A2:Option Addr) (n2 c2:Nat) (w:World) (h:RdK encR 2 w.heap.size w A1 l) :
 Calls Tryz.prog 76 #[.int .i64 base,.slice A1 l.size c1,.slice A2 n2 c2] w fun e w'=>∃ A out c,e=.returned (.agg #[.int .i64 (preE l base),.slice A out.size c,.slice A2 n2 c2])∧LessE l (1,preE l base) out∧RdK encR 2 w'.heap.size w' A out∧(A=none→c=0)∧(∀ g off,A=some ⟨g,off,none⟩→w.heap.size≤g)∧Below w.heap.size w w':=by
 have HR:=hI h
 clear h
 go_enter Tryz.func76,Tryz.ntmps76
 go_wp2_with fail
 refine (qtv A1 c1 l base _ ((HR.out.alloc (Nat.le_refl _) _).mono (bel1 w _).size)).mono ?_
 rintro e w1 ⟨rfl,hb1⟩
 have hB1:=qaa (bel1 w _) hb1
 have HB1:=hI hB1
 have HC:=hI (gCut_any A1 c1 l (preE l base) w1 ((HR.out.below hB1).mono hB1.size))
 go_wp2_with fail
 refine HC.out.mono ?_
 rintro e w2 ⟨v,out,rfl,hL1,hL2,hown,hb2⟩
 have hL:LessE l (1,preE l base) out:=⟨fun hs=>less_fit hs (hL1 hs),hL2⟩
 obtain ⟨A,c,rfl,hr,hn⟩:=qaw hown
 have HO:=hI hown
 have hfr:∀ g off,A=some ⟨g,off,none⟩→w.heap.size≤g:=fun g off e=>by
  have h1:=(hown.lt g (by rw [e];rfl)).1
  have h2:=hb1.size
  simp at h2
  omega
 have HFr:=hI hfr
 clear hown hfr
 have hz:w.heap.size + 1≤w1.heap.size:=by have:=hb1.size;simpa using this
 have HL:=hI hL
 have HB2:=hI (qaa HB1.out hb2)
 have HRd:=hI hr
 have HN:=hI hn
 have blk:w2.heap[w.heap.size]?=some (.cells #[.int .i64 0,.slice none 0 0,.slice none 0 0] 66 (0,0)):=(hb2.block _ (by omega)).trans ((hb1.block _ (by simp)).trans (heap_alloc_new w _))
 have k0:w2.cell? ⟨w.heap.size,0,none⟩=some (.int .i64 0):=by rw [cell_of_row w2 _ 0 _ _ (0,0) blk];rfl
 have k1:w2.cell? ⟨w.heap.size,1,none⟩=some (.slice none 0 0):=by rw [cell_of_row w2 _ 1 _ _ (0,0) blk];rfl
 have k2:w2.cell? ⟨w.heap.size,2,none⟩=some (.slice none 0 0):=by rw [cell_of_row w2 _ 2 _ _ (0,0) blk];rfl
 have f0:∀ i,w2.frozen? ⟨w.heap.size,i,none⟩=false:=fun i=>by simp [World.frozen?,blk]
 clear hL hL1 hL2 hr hn HC blk
 go_wp2
 refine bodyPost_ret (v:=.agg #[.int .i64 (preE l base),.slice A out.size c,.slice A2 n2 c2]) (by simp [results,Tryz.results76,go_sem,k0,k1,k2]) rfl ⟨A,out,c,rfl,HL.out,?_,HN.out,HFr.out,?_⟩
 ·obtain ⟨A',c',e,hr,_⟩:=qaw (own_heap (w':=((w2.setCell ⟨w.heap.size,0,none⟩ (.int .i64 (preE l base))).setCell ⟨w.heap.size,1,none⟩ (.slice A out.size c)).setCell ⟨w.heap.size,2,none⟩ (.slice A2 n2 c2)) HO.out (fun g hg hl=>by
   simp only [World.setCell,Array.getElem?_modify]
   repeat (rw [if_neg (by omega)])))
  injection e with e1 e2 e3
  subst e1
  exact hr
 ·exact ((HB2.out.setCell (Nat.le_refl _) _).setCell (Nat.le_refl _) _).setCell (Nat.le_refl _) _
end Go.Proofs.YtlkmagmdhopcjaaGreat
namespace Go.Proofs.YtlkmagmdhopcjaaGreat
open Go.RowKit Go.Sort Go.Lib
def qbw (d:Array (Int×Int)):Array Int:=(qbg d.toList).toArray
theorem qgn (d:Array (Int×Int)):(qbw d).size=d.size:=by simp [qbw,qbg]
def tcs (d:Array (Int×Int)) (k:Nat):Array Value:=((List.range d.size).map fun t=>if t < k then Value.int .i64 d[t]!.1 else .int .i64 0).toArray
theorem qvd (d:Array (Int×Int)) (k t:Nat):(tcs d k)[t]?=if t < d.size then some (if t < k then Value.int .i64 d[t]!.1 else .int .i64 0) else none:=by
 unfold tcs
 by_cases h:t < d.size
 ·simp [h]
 ·simp [h]
theorem tcs_set (d:Array (Int×Int)) (k:Nat):(tcs d k).setIfInBounds k (.int .i64 d[k]!.1)=tcs d (k + 1):=by
 apply Array.ext_getElem?
 intro t
 rw [Array.getElem?_setIfInBounds,qvd,qvd]
 have hs:(tcs d k).size=d.size:=by simp [tcs]
 by_cases h:k=t
 ·subst h
  rw [if_pos rfl,hs,if_pos (Nat.lt_succ_self k)]
 ·rw [if_neg h]
  by_cases ht:t < d.size
  ·rw [if_pos ht,if_pos ht]
   by_cases h1:t < k
   ·rw [if_pos h1,if_pos (by omega)]
   ·rw [if_neg h1,if_neg (by omega)]
  ·rw [if_neg ht,if_neg ht]
theorem tcs_all (d:Array (Int×Int)):tcs d d.size=(qbw d).map qcv:=by
 apply Array.ext_getElem?
 intro t
 rw [qvd]
 by_cases h:t < d.size
 ·rw [if_pos h,if_pos h]
  simp [qbw,qbg,qcv,h]
 ·rw [if_neg h]
  simp [qbw,qbg,h]
theorem qmd (S:Nat) (hS:S≤1000000) (W:World):(Instr.makeSlice 26 (.int .i64 (S:Int)) (.int .i64 (S:Int))).run Tryz.prog W=.ok (.slice (some ⟨W.heap.size,0,none⟩) S S) (W.alloc (.cells ((List.range S).map fun _=>Value.int .i64 0).toArray 3)):=by
 obtain ⟨i0,hi0,hz0,hz1,hz2⟩:=info_parts qdu
 have h:=run_make (P:=Tryz.prog) W 26 3 i0 (.int .i64 0) Tryz.underlying26 hi0 hz0 .i64 .i64 (S:Int) (S:Int) (by omega) (by omega) (by rw [hz2];omega) (by omega)
 rw [h]
 have:madeCells (Value.int .i64 0).cells ((S:Int).toNat * i0.size)=((List.range S).map fun _=>Value.int .i64 0).toArray:=by
  rw [hz1,Int.toNat_natCast,Nat.mul_one]
  unfold madeCells
  apply Array.ext_getElem?
  intro t
  by_cases ht:t < S
  ·simp [ht,Value.cells,Nat.mod_one]
  ·simp [ht]
 rw [this,Int.toNat_natCast]
theorem blk_put {W:World} {g:Nat} {cs:Array Value} {t:TypeId} (h:W.heap[g]?=some (.cells cs t (0,0))) (o:Obj) (k:Nat) (u:Value):((W.setCell ⟨g,k,none⟩ u).alloc o).heap[g]?=some (.cells (cs.setIfInBounds k u) t (0,0)):=by
 refine qcj ?_
 simp [World.setCell,Array.getElem?_modify,h]
def TmR (d:Array (Int×Int)) (w:World) (iv:Value) (wr:World):Prop:=∃ k:Nat,iv=.int .i64 (k:Int)∧k≤d.size∧wr.heap[w.heap.size]?=some (.cells (tcs d k) 3 (0,0))∧Below w.heap.size w wr
set_option maxRecDepth 100000
set_option maxHeartbeats 1000000 in
theorem qrf (A:Option Addr) (c:Nat) (d:Array (Int×Int)) (w:World) (h:RdK qaf 2 w.heap.size w A d) (hd:d.size≤1000000) :
 Calls Tryz.prog 73 #[.slice A d.size c] w fun e w'=>e=.returned (.slice (some ⟨w.heap.size,0,none⟩) (qbw d).size d.size)∧w'.heap[w.heap.size]?=some (.cells ((qbw d).map qcv) 3 (0,0))∧Below w.heap.size w w':=by
 have HR:=hI h
 clear h
 have hmk:=qmd d.size hd w
 go_enter Tryz.func73,Tryz.ntmps73
 go_wp2
 clear hmk
 go_loopw [11] (fun i wr=>TmR d w i wr) (fun i _=>d.size - (intOf i).toNat)
 case atStart =>
  refine ⟨0,rfl,Nat.zero_le _,?_,bel1 w _⟩
  have e:((List.range d.size).map fun _=>Value.int .i64 0).toArray=tcs d 0:=by
   unfold tcs
   simp
  rw [e]
  exact heap_alloc_new w _
 case round =>
  obtain ⟨k,rfl,hk,hblk,hB⟩:=hrel
  have HB:=hI hB
  have HK:=hI hblk
  have hgs:w.heap.size < wr.heap.size:=by
   rcases Nat.lt_or_ge w.heap.size wr.heap.size with h | h
   ·exact h
   ·rw [Array.getElem?_eq_none h] at hblk;cases hblk
  clear hB hblk
  by_cases hlt:k < d.size
  ·have kz:(k:Int) < (d.size:Int):=by omega
   obtain ⟨b,off,rfl,hbl,f⟩:=(HR.out.below HB.out).at_ hlt
   have e0:=f 0 (by omega)
   have e1:=f 1 (by omega)
   have HN:=hI (tcs_set d k)
   have cg:wr.cell? ⟨w.heap.size,k,none⟩=some (.int .i64 0):=by
    rw [cell_of_row wr _ k _ _ (0,0) HK.out,qvd,if_pos hlt,if_neg (by omega)]
   have fg:wr.frozen? ⟨w.heap.size,k,none⟩=false:=by
    have:=HK.out
    simp [World.frozen?,this]
   generalize d[k]! = x at e0 e1 HN
   simp only [Nat.add_zero,qaf,List.getElem!_cons_zero,List.getElem!_cons_succ] at e0 e1
   clear f
   generalize hG:w.heap.size=G at cg fg hgs HK HB
   have HG:=hI hG
   clear hG
   go_wp2
   go_roundw
   case rel =>
    refine ⟨k + 1,by go_num,by omega,?_,?_⟩
    ·rw [←HN.out,HG.out];exact blk_put HK.out _ k _
    ·rw [HG.out];exact (HB.out.setCell (p:=⟨G,k,none⟩) (Nat.le_refl G) _).alloc (by simp;omega) _
   case measure=>simp [intOf];omega
  ·have hlt':decide ((k:Int) < (d.size:Int))=false:=by simp;omega
   have HE:Hid (wr.heap[w.heap.size]?=some (.cells ((qbw d).map qcv) 3 (0,0))):=by
    show _=_
    rw [HK.out,←tcs_all]
    have:k=d.size:=by omega
    rw [this]
   have HT:=hI (qgn d)
   go_wp2
   go_ret
   refine ⟨?_,HE.out,HB.out⟩
   rw [HT.out];rfl
end Go.Proofs.YtlkmagmdhopcjaaGreat
namespace Go.Proofs.YtlkmagmdhopcjaaGreat
open Go.RowKit Go.Sort Go.Lib
theorem bsT (g c:Nat) (a:Array (Int×Int)) (x:Int) (w:World) (hup:(qbg a.toList).Pairwise (· < ·)) (hs:a.size≤1000000) (hblk:w.heap[g]?=some (.cells ((qbw a).map qcv) 3 (0,0))) :
 Calls Tryz.prog 153 #[.slice (some ⟨g,0,none⟩) (qbw a).size c,.int .i64 x] w fun e w'=>∃ i,e=.returned (.tuple #[.int .i64 i,.bool (atK a x)])∧Below w.heap.size w w':=by
 have hl:(qbg a.toList).length=(qbw a).size:=by simp [qbw]
 have ht:(qbg a.toList).take (qbw a).size=qbg a.toList:=List.take_of_length_le (by omega)
 refine (Tryz.slices_BinarySearch_int g 0 (qbw a).size c (qbg a.toList) x w (by omega) (by rw [qgn];omega) ?_ ?_).mono ?_
 ·intro j hj
  rw [Nat.zero_add,cell_of_row w g j _ _ (0,0) hblk]
  rw [hl] at hj
  simp [qcv,qbw,List.getD_eq_getElem?_getD,(show j < (qbg a.toList).length by omega)]
 ·rw [ht]
  exact hup.imp (fun h=>Int.le_of_lt h)
 ·rintro e w' ⟨rfl,q,rfl⟩
  rw [ht]
  exact ⟨_,rfl,qbc (Below.refl _ _) q⟩
def MgR (B:Nat) (a b:Array (Int×Int)) (w:World) (ov iv:Value) (wr:World):Prop:=∃ (k:Nat) (out:Array (Int×Int)),iv=.int .i64 (k:Int)∧k≤b.size∧out.size≤a.size + k∧(a.toList ++ b.toList.filter fun x=>!(atK a x.1))=out.toList ++ (b.toList.drop k).filter (fun x=>!(atK a x.1))∧wr.ownsRow B 29 2 ov out.size (flatK qaf 2 out).toList∧wr.heap[w.heap.size]?=some (.cells ((qbw a).map qcv) 3 (0,0))∧B≤wr.heap.size∧Below w.heap.size w wr
theorem qrg {w wr w1:World} {B:Nat} {o:Obj} {e:TypeId} {s n:Nat} {v:Value} {xs:List Value} (hb:Below B w wr) (hB:B≤wr.heap.size) (hown:wr.ownsRow B e s v n xs) (hg:(wr.alloc o).grownBy w1 v.ownBlock):Below B w w1 :=
 (hb.alloc hB _).grown hg (by simp;omega) (fun k hk=>(hown.lt k hk).1)
set_option maxRecDepth 100000
set_option maxHeartbeats 4000000 in
theorem qoc (A1:Option Addr) (c1:Nat) (a:Array (Int×Int)) (A2:Option Addr) (c2:Nat) (b:Array (Int×Int)) (w:World) (h1:RdK qaf 2 w.heap.size w A1 a) (h2:RdK qaf 2 w.heap.size w A2 b) (hup:(qbg a.toList).Pairwise (· < ·)) (hs1:a.size≤100000) (hs2:b.size≤100000) :
 Calls Tryz.prog 72 #[.slice A1 a.size c1,.slice A2 b.size c2] w fun e w'=>∃ A' c',e=.returned (.slice A' (mrgK a b).size c')∧RdK qaf 2 w'.heap.size w' A' (mrgK a b)∧(A'=none→c'=0)∧(∀ g off,A'=some ⟨g,off,none⟩→w.heap.size≤g)∧Below w.heap.size w w':=by
 obtain ⟨i0,hi0,hz0,hz1,hz2⟩:=info_parts qka
 have H1:=hI h1
 have H2:=hI h2
 have HU:=hI hup
 clear h1 h2 hup
 have HMS:Hid ((mrgK a b).size=(a.toList ++ b.toList.filter fun x=>!(atK a x.1)).toArray.size):=by show _=_;unfold mrgK;rw [qmy];rfl
 go_enter Tryz.func72,Tryz.ntmps72
 go_wp2_with fail
 refine (qrf A1 c1 a w H1.out (by omega)).mono ?_
 rintro e w1 ⟨rfl,hblk1,hb1⟩
 have HB1:=hI hb1
 have HK1:=hI hblk1
 clear hb1 hblk1
 have HC:=hI (qfx A1 c1 a w1 ((H1.out.below HB1.out).mono HB1.out.size) (by omega))
 go_wp2_with fail
 refine HC.out.mono ?_
 rintro e w2 ⟨v,rfl,hown2,hb2⟩
 have hlt1:w.heap.size < w1.heap.size:=by
  rcases Nat.lt_or_ge w.heap.size w1.heap.size with h | h
  ·exact h
  ·have:=HK1.out;rw [Array.getElem?_eq_none h] at this;cases this
 have HO2:=hI hown2
 have HK2:=hI ((hb2.block _ hlt1).trans HK1.out)
 have HB2:=hI (qaa HB1.out hb2)
 obtain ⟨B,hBe⟩:∃ B,B=w1.heap.size:=⟨_,rfl⟩
 rw [←hBe] at HO2 hlt1
 have hB2z:B≤w2.heap.size:=by rw [hBe];exact hb2.size
 clear HC hown2 hb2 HK1 hBe
 generalize hG:w.heap.size=G
 have HG:=hI hG
 clear hG
 go_wp2
 go_loopw [6,17] (fun ov iv wr=>MgR B a b w ov iv wr) (fun _ i _=>b.size - (intOf i).toNat)
 case atStart=>exact ⟨0,a,rfl,Nat.zero_le _,by omega,rfl,HO2.out,HK2.out,hB2z,HB2.out⟩
 case round =>
  obtain ⟨k,out,rfl,hk,hos,he,hown,hblk,hBz,hB⟩:=hrel
  have HE:=hI he
  have HO:=hI hown
  have HK:=hI hblk
  have HB:=hI hB
  clear he hown hblk hB
  by_cases hlt:k < b.size
  ·have kz:(k:Int) < (b.size:Int):=by omega
   obtain ⟨bb,off,rfl,hbl,f⟩:=(H2.out.below HB.out).at_ hlt
   have e0:=f 0 (by omega)
   have e1:=f 1 (by omega)
   have HD:=hI (qgd b k hlt)
   generalize b[k]! = x at e0 e1 HD
   simp only [Nat.add_zero,qaf,List.getElem!_cons_zero,List.getElem!_cons_succ] at e0 e1
   clear f
   have HBS:Hid (∀ c W,Below wr.heap.size wr W→Calls Tryz.prog 153 #[.slice (some ⟨G,0,none⟩) (qbw a).size c,.int .i64 x.1] W fun e w'=>∃ i,e=.returned (.tuple #[.int .i64 i,.bool (atK a x.1)])∧Below W.heap.size W w'):=fun c W hbW=>by
    refine bsT G c a x.1 W HU.out (by omega) ?_
    have hlt2:w.heap.size < wr.heap.size:=by
     rcases Nat.lt_or_ge w.heap.size wr.heap.size with h | h
     ·exact h
     ·have:=HK.out;rw [Array.getElem?_eq_none h] at this;cases this
    rw [←HG.out]
    exact (hbW.block _ hlt2).trans HK.out
   go_wp2_with fail
   refine (HBS.out _ _ (bel1 wr _)).mono ?_
   rintro e w4 ⟨i,rfl,hb4⟩
   have u0:w4.cell? ⟨wr.heap.size,0,none⟩=some (.int .i64 x.1):=(hb4.cell (p:=⟨wr.heap.size,0,none⟩) (by simp)).trans (by rw [qbb];rfl)
   have u1:w4.cell? ⟨wr.heap.size,1,none⟩=some (.int .i64 x.2):=(hb4.cell (p:=⟨wr.heap.size,1,none⟩) (by simp)).trans (by rw [qbb];rfl)
   have hB4:=qaa (bel1 wr _) hb4
   have HB4:=hI (HB.out.trans (hB4.mono HB.out.size))
   have hO4:=qjn HO.out hB4
   have HK4:=hI (show w4.heap[w.heap.size]?=_ from (hB4.block _ (by
    rcases Nat.lt_or_ge w.heap.size wr.heap.size with h | h
    ·exact h
    ·have:=HK.out;rw [Array.getElem?_eq_none h] at this;cases this)).trans HK.out)
   have hz4:B≤w4.heap.size:=Nat.le_trans hBz hB4.size
   clear hb4 hB4 HBS
   cases hat:atK a x.1
   ·have HN:Hid ((a.toList ++ b.toList.filter fun x=>!(atK a x.1))=(out.push x).toList ++ (b.toList.drop (k + 1)).filter (fun x=>!(atK a x.1))):=by
     show _=_
     rw [HE.out,HD.out,List.filter_cons,hat,Array.toList_push,List.append_assoc];rfl
    clear hat
    go_wp2_with (at_builtin;refine wpList_append_own _ rfl _ _ 23 rfl B 29 i0 (.agg #[.int .i64 0,.int .i64 0]) 2 16 Tryz.underlying23 hi0 hz0 hz1 hz2 rfl (by decide) _ _ _ rfl (hO4.alloc _) ⟨w4.heap.size,0,none⟩ 1 1 [.int .i64 x.1,.int .i64 x.2] rfl rfl (qes w4 _ _ _) (by simp [Value.oneCell']) (by unfold maxLen;omega) (by omega) (by simp;omega) ?_;intro v' w5 hown' hgrow _)
    go_roundw
    case rel =>
     refine ⟨k + 1,out.push x,by go_num,by omega,by simp;omega,HN.out,(by rw [Array.size_push,qbm qgh];exact hown'),?_,Nat.le_trans hz4 (Nat.le_trans (by simp) hgrow.size),qrg HB4.out HB4.out.size (qbs hO4 (by omega)) hgrow⟩
     have hz:=HB4.out.size
     refine (hgrow.block _ (by simp;omega) (fun e=>?_)).trans (qcj HK4.out)
     have:=(hO4.lt _ e.symm).1
     omega
    case measure=>simp [intOf];omega
   ·have HN:Hid ((a.toList ++ b.toList.filter fun x=>!(atK a x.1))=out.toList ++ (b.toList.drop (k + 1)).filter (fun x=>!(atK a x.1))):=by
     show _=_
     rw [HE.out,HD.out,List.filter_cons,hat];rfl
    clear hat
    go_wp2
    go_roundw
    case rel=>exact ⟨k + 1,out,by go_num,by omega,by omega,HN.out,hO4,HK4.out,hz4,HB4.out⟩
    case measure=>simp [intOf];omega
  ·have hlt':decide ((k:Int) < (b.size:Int))=false:=by simp;omega
   have HN:Hid ((a.toList ++ b.toList.filter fun x=>!(atK a x.1)).toArray=out):=by
    show _=_
    rw [HE.out,List.drop_of_length_le (by simp;omega)];simp
   obtain ⟨Am,cm,rfl,hrd,_⟩:=qaw HO.out
   have HS:=hI (Sort_any Am cm out wr hrd (by omega))
   clear hrd
   go_wp2_with fail
   refine HS.out.mono ?_
   rintro e w4 ⟨A',c',rfl,hrd4,hn4,hg4,hb4⟩
   have HR4:=hI hrd4
   have HN4:=hI hn4
   have HG4:=hI hg4
   have HB4:=hI hb4
   clear hrd4 hn4 hg4 hb4
   go_wp2
   go_ret
   refine ⟨A',c',by rw [HMS.out,HN.out];rfl,?_,HN4.out,fun g off e=>Nat.le_trans HB.out.size (HG4.out g off e),qaa HB.out HB4.out⟩
   have e:mrgK a b=srtA out:=by rw [←HN.out];rfl
   rw [e]
   exact HR4.out
end Go.Proofs.YtlkmagmdhopcjaaGreat
namespace Go.Proofs.YtlkmagmdhopcjaaGreat
open Go.RowKit Go.Sort Go.Lib
theorem box3 {w w1:World} {a b c:Value} {T:TypeId} (hb:Below (w.alloc (.cells #[a,b,c] T)).heap.size (w.alloc (.cells #[a,b,c] T)) w1):w1.cell? ⟨w.heap.size,0,none⟩=some a∧w1.cell? ⟨w.heap.size,1,none⟩=some b∧w1.cell? ⟨w.heap.size,2,none⟩=some c:=by
 refine ⟨?_,?_,?_⟩
 ·exact (hb.cell (p:=⟨w.heap.size,0,none⟩) (by simp)).trans (qbb w _ _ 0)
 ·exact (hb.cell (p:=⟨w.heap.size,1,none⟩) (by simp)).trans (qbb w _ _ 1)
 ·exact (hb.cell (p:=⟨w.heap.size,2,none⟩) (by simp)).trans (qbb w _ _ 2)
theorem has_in {rs:Array (Int×Int)} (h:qam rs=0) (n:Int):qbx rs n=inR rs n:=by unfold qbx;rw [h];rfl
set_option maxRecDepth 100000
set_option maxHeartbeats 1000000 in
theorem kChk1_any (rs:Array (Int×Int)) (A1:Option Addr) (c1:Nat) (x:Int×Int) (g:Nat) (w:World) (hg:g < w.heap.size) (hc:w.cell? ⟨g,1,none⟩=some (.slice A1 rs.size c1)) (h:RdK encR 2 w.heap.size w A1 rs) :
 Calls Tryz.prog 147 #[.agg #[.int .i64 x.1,.int .i64 x.2],.pointer (some ⟨g,0,none⟩)] w fun e w'=>e=.returned (.bool (qbx rs x.1))∧Below w.heap.size w w':=by
 have HR:=hI h
 clear h
 have hc1:(w.alloc (.cells #[.int .i64 x.1,.int .i64 x.2] 29)).cell? ⟨g,1,none⟩=some (.slice A1 rs.size c1):=(World.cell?_alloc_lt w _ _ hg).trans hc
 have HH:=hI (qjp A1 c1 rs x.1 (w.alloc (.cells #[.int .i64 x.1,.int .i64 x.2] 29)) ((HR.out.alloc (Nat.le_refl _) _).mono (bel1 w _).size))
 generalize qbx rs x.1=hv at HH
 go_enter Tryz.func147,Tryz.ntmps147
 go_wp2_with fail
 refine HH.out.mono ?_
 rintro e w1 ⟨rfl,hb1⟩
 go_wp2
 go_ret
 exact ⟨rfl,qaa (bel1 w _) hb1⟩
set_option maxHeartbeats 4000000 in
theorem qge (base:Int) (rs ats:Array (Int×Int)) (A1:Option Addr) (c1:Nat) (A2:Option Addr) (c2:Nat) (w:World) (h1:RdK encR 2 w.heap.size w A1 rs) (h2:RdK qaf 2 w.heap.size w A2 ats) :
 Calls Tryz.prog 67 #[.agg #[.int .i64 base,.slice A1 rs.size c1,.slice A2 ats.size c2]] w fun e w'=>e=.returned (.int .i64 (chkE ⟨base,rs,ats⟩))∧Below w.heap.size w w':=by
 have HC:Hid (∀ W,Below w.heap.size w W→Calls Tryz.prog 128 #[.slice A1 rs.size c1] W fun e w'=>e=.returned (.int .i64 (qam rs))∧Below W.heap.size W w'):=fun W hb=>qkj A1 c1 rs W ((h1.below hb).mono hb.size)
 have HRi:Hid (ats.size≤400→∀ W,Below w.heap.size w W→Calls Tryz.prog 68 #[.slice A2 ats.size c2,.int .i64 base,.int .i64 1000000] W fun e w'=>e=.returned (.bool (qdg 1000000 base ats.toList))∧Below W.heap.size W w'):=fun hs W hb=>qpl A2 c2 ats base 1000000 W ((h2.below hb).mono hb.size) (by omega)
 have HR1:=hI h1
 have HR2:=hI h2
 have hrw:∀ b:Bool,chkB ⟨base,rs,ats⟩=b→chkE ⟨base,rs,ats⟩=if b=true then 0 else 2:=fun b hb=>by unfold chkE;rw [hb]
 clear h1 h2
 by_cases g1:base < 0∨1000000 < base∨qam rs≠0∨400 < ats.size∨qdg 1000000 base ats.toList=false
 ·have HE:Hid (chkE ⟨base,rs,ats⟩=2):=by
   show _=_
   rw [hrw false]
   ·rfl
   ·rw [Bool.eq_false_iff]
    intro h
    have h':=qdp.1 h
    have a1:=h'.b0
    have a2:=h'.b1
    have a3:=h'.rs
    have a4:=h'.sz
    have a5:=h'.up
    simp only at a1 a2 a3 a4 a5
    rcases g1 with g | g | g | g | g
    ·omega
    ·omega
    ·exact g a3
    ·omega
    ·rw [a5] at g;cases g
  clear hrw
  by_cases q1:base < 0
  ·have q1':decide (base < 0)=true:=by simpa using q1
   clear g1 q1
   go_enter Tryz.func67,Tryz.ntmps67
   go_wp2
   go_ret
   exact ⟨qan HE.out.symm,bel1 w _⟩
  ·have q1':decide (base < 0)=false:=by simpa using q1
   by_cases q2:1000000 < base
   ·have q2':decide (1000000 < base)=true:=by simpa using q2
    clear g1 q1 q2
    go_enter Tryz.func67,Tryz.ntmps67
    go_wp2
    go_ret
    exact ⟨qan HE.out.symm,bel1 w _⟩
   ·have q2':decide (1000000 < base)=false:=by simpa using q2
    have HQ:Hid (qam rs≠0∨400 < ats.size∨qdg 1000000 base ats.toList=false):=by
     rcases g1 with g | g | g
     ·exact absurd g q1
     ·exact absurd g q2
     ·exact g
    clear g1 q1 q2
    go_enter Tryz.func67,Tryz.ntmps67
    go_wp2_with fail
    refine (HC.out _ (bel1 w _)).mono ?_
    rintro e w1 ⟨rfl,hb1⟩
    obtain ⟨u0,u1,u2⟩:=box3 hb1
    have HB1:=hI (qaa (bel1 w _) hb1)
    have hrest:=fun p:ats.size≤400=>HRi.out p w1 HB1.out
    have HR:=hI hrest
    clear hb1 hrest HC
    by_cases q3:qam rs=0
    ·have q3':(qam rs != 0)=false:=by simpa using q3
     by_cases q4:400 < ats.size
     ·have q4':decide ((400:Int) < (ats.size:Int))=true:=by simp;omega
      clear q3 q4
      go_wp2
      go_ret
      exact ⟨qan HE.out.symm,HB1.out⟩
     ·have q4':decide ((400:Int) < (ats.size:Int))=false:=by simp;omega
      have q5:qdg 1000000 base ats.toList=false:=by
       rcases HQ.out with g | g | g
       ·exact absurd q3 g
       ·exact absurd g q4
       ·exact g
      have HRR:=hI (HR.out (by omega))
      rw [q5] at HRR
      clear q3 q5 HQ HR
      go_wp2_with fail
      refine HRR.out.mono ?_
      rintro e w2 ⟨rfl,hb2⟩
      go_wp2
      go_ret
      exact ⟨qan HE.out.symm,qaa HB1.out hb2⟩
    ·have q3':(qam rs != 0)=true:=by simpa using q3
     clear q3 HQ
     go_wp2
     go_ret
     exact ⟨qan HE.out.symm,HB1.out⟩
 ·obtain ⟨p1,p2,p3,p4,p5⟩:0≤base∧base≤1000000∧qam rs=0∧ats.size≤400∧qdg 1000000 base ats.toList=true:=by
   refine ⟨by omega,by omega,Classical.byContradiction fun h=>g1 (by simp [h]),by omega,?_⟩
   cases hr:qdg 1000000 base ats.toList
   ·exact absurd (by simp [hr]) g1
   ·rfl
  have hall:chkB ⟨base,rs,ats⟩=(decide (0 < rs.size→base + 1 < rs[0]!.1) && !(ats.toList.any fun a=>qbx rs a.1)):=by
   have e:(fun a:Int×Int=>qbx rs a.1)=fun a=>inR rs a.1:=funext fun a=>has_in p3 a.1
   rw [e]
   unfold chkB
   simp only [p3,p5,p4]
   simp [p1,p2]
  have HA:=hI hall
  have q1:decide (base < 0)=false:=by simpa using p1
  have q2:decide (1000000 < base)=false:=by simpa using p2
  have q3:(qam rs != 0)=false:=by simpa using p3
  have q4:decide ((400:Int) < (ats.size:Int))=false:=by simp;omega
  have HRi':=hI (HRi.out p4)
  rw [p5] at HRi'
  have HW:=hI hrw
  have HP4:=hI p4
  have hrs:=(qdm p3).1
  have hatN:∀ W,Below w.heap.size w W→0 < rs.size→∃ b off,A1=some ⟨b,off,none⟩∧W.cell? ⟨b,off,none⟩=some (.int .i64 rs[0]!.1):=fun W hb h0=>by
   obtain ⟨b,off,e,_,f⟩:=(HR1.out.below hb).at_ (i:=0) h0
   refine ⟨b,off,e,?_⟩
   have:=f 0 (by omega)
   simpa [encR] using this
  have HN:=hI hatN
  have hclo:∀ g W,g < W.heap.size→W.cell? ⟨g,1,none⟩=some (.slice A1 rs.size c1)→Below w.heap.size w W→Calls Tryz.prog 148 #[.slice A2 ats.size c2,.func (.func 147) #[] #[.pointer (some ⟨g,0,none⟩)]] W fun e w'=>e=.returned (.bool (ats.toList.any fun a=>qbx rs a.1))∧Below W.heap.size W w':=fun g W hg hc hb =>
   ContA (fun a=>qbx rs a.1) 147 #[.pointer (some ⟨g,0,none⟩)] A2 c2 ats W ((HR2.out.below hb).mono hb.size) (by omega) (enters_of Tryz.func147 (by kernel_rfl) rfl)
    (fun W' x hbW=>(kChk1_any rs A1 c1 x g W' (Nat.lt_of_lt_of_le hg hbW.size) ((hbW.cell (p:=⟨g,1,none⟩) hg).trans hc) (((HR1.out.below hb).mono hb.size).below hbW |>.mono hbW.size)).mono fun _ _ ⟨he,hb'⟩=>⟨he,hbW.trans (hb'.mono hbW.size)⟩)
  have HCl:=hI hclo
  clear g1 p3 p5 hall hrw hatN hclo HRi
  go_enter Tryz.func67,Tryz.ntmps67
  go_wp2_with fail
  refine (HC.out _ (bel1 w _)).mono ?_
  rintro e w1 ⟨rfl,hb1⟩
  obtain ⟨u0,u1,u2⟩:=box3 hb1
  have HB1:=hI (qaa (bel1 w _) hb1)
  have HRR:=hI (HRi'.out w1 HB1.out)
  have hlt1:w.heap.size < w1.heap.size:=by have:=hb1.size;simp at this;omega
  clear hb1 HC HRi'
  go_wp2_with fail
  refine HRR.out.mono ?_
  rintro e w2 ⟨rfl,hb2⟩
  have v0:=(hb2.cell (p:=⟨w.heap.size,0,none⟩) hlt1).trans u0
  have v1:=(hb2.cell (p:=⟨w.heap.size,1,none⟩) hlt1).trans u1
  have v2:=(hb2.cell (p:=⟨w.heap.size,2,none⟩) hlt1).trans u2
  have hlt2:w.heap.size < w2.heap.size:=Nat.lt_of_lt_of_le hlt1 hb2.size
  have HB2:=hI (qaa HB1.out hb2)
  clear hb2 u0 u1 u2 HRR hlt1
  by_cases q5:0 < rs.size
  ·obtain ⟨b,off,rfl,hcell⟩:=HN.out w2 HB2.out q5
   have q5':decide ((0:Int) < (rs.size:Int))=true:=by simp;omega
   obtain ⟨lo,hlo⟩:∃ lo,rs[0]!.1=lo:=⟨_,rfl⟩
   rw [hlo] at hcell
   have HLo:=hI hlo
   clear hlo HN
   by_cases q6:lo≤base + 1
   ·have q6':decide (lo≤base + 1)=true:=by simpa using q6
    have HE:Hid (chkE ⟨base,rs,ats⟩=2):=by
     show _=_
     rw [HW.out false]
     ·rfl
     ·rw [HA.out,Bool.and_eq_false_iff]
      left
      rw [decide_eq_false_iff_not]
      intro h
      have:=h q5
      rw [HLo.out] at this
      omega
    clear q6
    go_wp2
    go_quiet (fail)
    go_wp2
    go_ret
    exact ⟨qan HE.out.symm,qbc HB2.out _⟩
   ·have q6':decide (lo≤base + 1)=false:=by simpa using q6
    have hone:decide (0 < rs.size→base + 1 < rs[0]!.1)=true:=by
     rw [decide_eq_true_iff]
     intro _
     rw [HLo.out]
     omega
    rw [hone,Bool.true_and] at HA
    clear q6 hone
    go_wp2
    go_quiet (fail)
    have HCC:=hI (HCl.out w.heap.size (w2.drewN nq) hlt2 v1 (qbc HB2.out _))
    cases hany:(ats.toList.any fun a=>qbx rs a.1)
    ·rw [hany] at HCC HA
     have HE:Hid (chkE ⟨base,rs,ats⟩=0):=by show _=_;rw [HW.out true HA.out];rfl
     clear hany
     go_wp2_with fail
     refine HCC.out.mono ?_
     rintro e w3 ⟨rfl,hb3⟩
     go_wp2
     go_ret
     exact ⟨qan HE.out.symm,qaa (qbc HB2.out _) hb3⟩
    ·rw [hany] at HCC HA
     have HE:Hid (chkE ⟨base,rs,ats⟩=2):=by show _=_;rw [HW.out false HA.out];rfl
     clear hany
     go_wp2_with fail
     refine HCC.out.mono ?_
     rintro e w3 ⟨rfl,hb3⟩
     go_wp2
     go_ret
     exact ⟨qan HE.out.symm,qaa (qbc HB2.out _) hb3⟩
  ·have q5':decide ((0:Int) < (rs.size:Int))=false:=decide_eq_false (by omega)
   have q5n:decide (0 < rs.size)=false:=decide_eq_false q5
   have hone:decide (0 < rs.size→base + 1 < rs[0]!.1)=true:=by
    rw [decide_eq_true_iff]
    intro h
    exact absurd h q5
   rw [hone,Bool.true_and] at HA
   clear q5 hone HN
   go_wp2
   go_quiet (fail)
   have HCC:=hI (HCl.out w.heap.size (w2.drewN nq) hlt2 v1 (qbc HB2.out _))
   cases hany:(ats.toList.any fun a=>qbx rs a.1)
   ·rw [hany] at HCC HA
    have HE:Hid (chkE ⟨base,rs,ats⟩=0):=by show _=_;rw [HW.out true HA.out];rfl
    clear hany
    go_wp2_with fail
    refine HCC.out.mono ?_
    rintro e w3 ⟨rfl,hb3⟩
    go_wp2
    go_ret
    exact ⟨qan HE.out.symm,qaa (qbc HB2.out _) hb3⟩
   ·rw [hany] at HCC HA
    have HE:Hid (chkE ⟨base,rs,ats⟩=2):=by show _=_;rw [HW.out false HA.out];rfl
    clear hany
    go_wp2_with fail
    refine HCC.out.mono ?_
    rintro e w3 ⟨rfl,hb3⟩
    go_wp2
    go_ret
    exact ⟨qan HE.out.symm,qaa (qbc HB2.out _) hb3⟩
theorem qxm (v:Value) (k:KN) (w:World) (h:KnV w v k):Calls Tryz.prog 67 #[v] w fun e w'=>e=.returned (.int .i64 (chkE k))∧Below w.heap.size w w':=by
 obtain ⟨A1,c1,A2,c2,rfl,h1,h2,_,_⟩:=h
 exact qge k.base k.rs k.ats A1 c1 A2 c2 w h1 h2
end Go.Proofs.YtlkmagmdhopcjaaGreat
namespace Go.Proofs.YtlkmagmdhopcjaaGreat
open Go.RowKit Go.Sort Go.Lib
set_option maxRecDepth 100000
theorem arr_ext_K {α:Type} [Inhabited α] {d1 d2:Array α} (hs:d1.size=d2.size) (h:∀ j,j < d1.size→d1[j]! = d2[j]!):d1=d2 :=
 Array.ext hs fun t h1 h2=>by have:=h t h1;rwa [getElem!_pos d1 t h1,getElem!_pos d2 t h2] at this
end Go.Proofs.YtlkmagmdhopcjaaGreat
