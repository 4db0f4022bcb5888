/- Texts that the law leans on. -/
import Derived.Test.YtnmojicfmcbgmaaGreatDoorQRangesO
import Derived.Test.YtnmojicfmcbgmaaGreatDoorQSortJ
import Derived.Deep.LoopGhost
import Derived.Test.YtnmojicfmcbgmaaGreatDoorQIdentB
import Derived.Laws.NewBlocks
namespace Go.Proofs.YtnmojicfmcbgmaaGreatDoor
open Go.RowKit Go.Sort Go.Lib
structure KN where
 base:Int
 rs:Array (Int×Int)
 ats:Array (Int×Int)
instance:Inhabited KN:=⟨⟨0,#[],#[]⟩⟩
def okI (id:Int):Bool:=decide (10≤id∧id≤999999∧id % 10≠0)
def qch (hi:Int):Int→List (Int×Int)→Bool
 | _,[]=>true
 | lo,x :: l=>decide (lo < x.1∧x.1≤hi) && okI x.2 && qch hi x.1 l
theorem qcz (hi:Int):∀ (l:List (Int×Int)) (lo:Int),qch hi lo l=true↔l.Pairwise (fun x y=>x.1 < y.1)∧∀ x ∈ l,lo < x.1∧x.1≤hi∧okI x.2=true
 | [],lo=>by simp [qch]
 | x :: l,lo=>by
   rw [qch,Bool.and_eq_true,Bool.and_eq_true,decide_eq_true_eq,qcz hi l x.1,List.pairwise_cons]
   constructor
   ·rintro ⟨⟨⟨h1,h2⟩,h3⟩,h4,h5⟩
    refine ⟨⟨fun y hy=>(h5 y hy).1,h4⟩,fun y hy=>?_⟩
    rcases List.mem_cons.1 hy with rfl | hy
    ·exact ⟨h1,h2,h3⟩
    ·exact ⟨Int.lt_trans h1 (h5 y hy).1,(h5 y hy).2⟩
   ·rintro ⟨⟨h1,h2⟩,h3⟩
    have hx:=h3 x (by simp)
    exact ⟨⟨⟨hx.1,hx.2.1⟩,hx.2.2⟩,h2,fun y hy=>⟨h1 y hy,(h3 y (by simp [hy])).2⟩⟩
def chkB (k:KN):Bool:=decide (0≤k.base∧k.base≤1000000) && (qaw k.rs == 0) && decide (k.ats.size≤400) && qch 1000000 k.base k.ats.toList && decide (0 < k.rs.size→k.base + 1 < k.rs[0]!.1) && !(k.ats.toList.any fun a=>inR k.rs a.1)
def chkE (k:KN):Int:=if chkB k=true then 0 else 2
structure ChkP (k:KN):Prop where
 b0:0≤k.base
 b1:k.base≤1000000
 rs:qaw k.rs=0
 sz:k.ats.size≤400
 up:qch 1000000 k.base k.ats.toList=true
 fst:0 < k.rs.size→k.base + 1 < k.rs[0]!.1
 out:∀ a ∈ k.ats.toList,inR k.rs a.1=false
theorem qfw {k:KN}:chkB k=true↔ChkP k:=by
 unfold chkB
 simp only [Bool.and_eq_true,decide_eq_true_eq,beq_iff_eq,Bool.not_eq_true',List.any_eq_false,Bool.not_eq_true]
 constructor
 ·rintro ⟨⟨⟨⟨⟨⟨h1,h2⟩,h3⟩,h4⟩,h5⟩,h6⟩,h7⟩
  exact ⟨h1,h2,h3,h4,h5,h6,h7⟩
 ·rintro ⟨h1,h2,h3,h4,h5,h6,h7⟩
  exact ⟨⟨⟨⟨⟨⟨h1,h2⟩,h3⟩,h4⟩,h5⟩,h6⟩,h7⟩
def hasK (k:KN) (t:Int):Bool:=chkB k && (decide (1≤t∧t≤k.base) || qcf k.rs t)
theorem hasK_iff {k:KN} (h:ChkP k) (t:Int):hasK k t=true↔(1≤t∧t≤k.base)∨inR k.rs t=true:=by
 unfold hasK qcf
 rw [qfw.2 h,h.rs]
 simp
def qeq (l:List (Int×Int)):List Int:=l.map (·.1)
def mrgK (a b:Array (Int×Int)):Array (Int×Int):=srtA (a.toList ++ b.toList.filter fun x=>!(qeq a.toList).contains x.1).toArray
theorem srtA_mem {d:Array (Int×Int)} {x:Int×Int}:x ∈ (srtA d).toList↔x ∈ d.toList:=by
 unfold srtA
 exact (List.mergeSort_perm d.toList _).mem_iff
theorem mrgK_mem {a b:Array (Int×Int)} {x:Int×Int}:x ∈ (mrgK a b).toList↔x ∈ a.toList∨(x ∈ b.toList∧x.1 ∉ qeq a.toList):=by
 unfold mrgK
 rw [srtA_mem]
 simp
theorem mrgK_size (a b:Array (Int×Int)):(mrgK a b).size≤a.size + b.size:=by
 unfold mrgK
 rw [srtA_size]
 have:=List.length_filter_le (fun x:Int×Int=>!(qeq a.toList).contains x.1) b.toList
 simp at this ⊢
 omega
theorem srtA_up {d:Array (Int×Int)} (h:(qeq d.toList).Nodup):(srtA d).toList.Pairwise (fun x y=>x.1 < y.1):=by
 have hs:(srtA d).toList.Pairwise (fun x y=>(!qee y x)=true):=by
  unfold srtA
  refine List.pairwise_mergeSort (fun a b c h1 h2=>?_) (fun a b=>?_) d.toList
  ·obtain ⟨a1,a2⟩:=a;obtain ⟨b1,b2⟩:=b;obtain ⟨c1,c2⟩:=c
   unfold qee at *
   simp at *
   omega
  ·obtain ⟨a1,a2⟩:=a;obtain ⟨b1,b2⟩:=b
   unfold qee
   simp
   omega
 have hn:(qeq (srtA d).toList).Nodup:=by
  have hp:(srtA d).toList.Perm d.toList:=by unfold srtA;exact List.mergeSort_perm d.toList _
  exact ((hp.map (fun x:Int×Int=>x.1)).nodup_iff).2 h
 have hn':(srtA d).toList.Pairwise (fun x y=>x.1≠y.1):=by
  have:=hn
  unfold qeq at this
  exact (List.pairwise_map.1 this)
 refine (hs.and hn').imp ?_
 rintro ⟨x1,x2⟩ ⟨y1,y2⟩ ⟨h1,h2⟩
 unfold qee at h1
 simp at h1 h2 ⊢
 omega
theorem qlu {l:List (Int×Int)} (h:l.Pairwise (fun x y=>x.1 < y.1)):(qeq l).Nodup:=by
 unfold qeq
 exact List.pairwise_map.2 (h.imp (fun h=>Int.ne_of_lt h))
theorem up_inj:∀ {l:List (Int×Int)},l.Pairwise (fun x y=>x.1 < y.1)→∀ {x y:Int×Int},x ∈ l→y ∈ l→x.1=y.1→x=y
 | [],_,_,_,hx,_,_=>by cases hx
 | z :: l,h,x,y,hx,hy,e=>by
   obtain ⟨h1,h2⟩:=List.pairwise_cons.1 h
   rcases List.mem_cons.1 hx with e1 | hx'
   ·rcases List.mem_cons.1 hy with e2 | hy'
    ·rw [e1,e2]
    ·have:=h1 y hy';rw [e1] at e;omega
   ·rcases List.mem_cons.1 hy with e2 | hy'
    ·have:=h1 x hx';rw [e2] at e;omega
    ·exact up_inj h2 hx' hy' e
theorem mrgK_up {a b:Array (Int×Int)} (ha:a.toList.Pairwise (fun x y=>x.1 < y.1)) (hb:b.toList.Pairwise (fun x y=>x.1 < y.1)):(mrgK a b).toList.Pairwise (fun x y=>x.1 < y.1):=by
 unfold mrgK
 refine srtA_up ?_
 show (qeq (a.toList ++ _)).Nodup
 unfold qeq
 rw [List.map_append]
 refine List.nodup_append.2 ⟨qlu ha,qlu (hb.filter _),fun x hx y hy e=>?_⟩
 obtain ⟨z,hz,rfl⟩:=List.mem_map.1 hy
 have:=(List.mem_filter.1 hz).2
 simp at this
 obtain ⟨u,hu,e'⟩:=List.mem_map.1 hx
 exact this u.2 (by have:(u.1,u.2)=(z.1,u.2):=by rw [e',e]
                    rw [←this];simpa using hu)
def pK (k:KN) (lo hi:Int) (atts:Array (Int×Int)) (n:Int):Bool:=inR k.rs n || (decide (max lo k.base < n∧n≤hi) && !(qeq atts.toList).contains n && !(qeq k.ats.toList).contains n)
theorem qvm {k:KN} {lo hi:Int} {atts:Array (Int×Int)} {n:Int}:pK k lo hi atts n=true↔inR k.rs n=true∨((max lo k.base < n∧n≤hi)∧n ∉ qeq atts.toList∧n ∉ qeq k.ats.toList):=by
 unfold pK
 simp [and_assoc]
def qni (k:KN) (atts:Array (Int×Int)):Array (Int×Int):=(atts.toList.filter fun a=>!(decide (a.1≤k.base) || inR k.rs a.1)).toArray
def allK (k:KN) (atts:Array (Int×Int)):Array (Int×Int):=mrgK k.ats (qni k atts)
theorem fresh_mem {k:KN} {atts:Array (Int×Int)} {x:Int×Int}:x ∈ (qni k atts).toList↔x ∈ atts.toList∧k.base < x.1∧inR k.rs x.1=false:=by
 unfold qni
 simp
theorem qqv (k:KN) (atts:Array (Int×Int)):(allK k atts).size≤k.ats.size + atts.size:=by
 have h1:=mrgK_size k.ats (qni k atts)
 have h2:(qni k atts).size≤atts.size:=by
  unfold qni
  have:=List.length_filter_le (fun a:Int×Int=>!(decide (a.1≤k.base) || inR k.rs a.1)) atts.toList
  simpa using this
 unfold allK
 omega
def cutL (b:Int):List (Int×Int)→List (Int×Int)
 | []=>[]
 | x :: l=>if x.2≤b then cutL b l else (max x.1 (b + 1),x.2) :: l
theorem qvn (b:Int):∀ l,(cutL b l).length≤l.length
 | []=>Nat.le_refl _
 | x :: l=>by
   rw [cutL]
   have:=qvn b l
   split
   ·simp;omega
   ·simp
theorem cutL_ok {b:Int} (hb:0≤b):∀ {l:List (Int×Int)},NL l→NL (cutL b l)∧∀ n,(cutL b l).any (qec n)=(l.any (qec n) && decide (b < n))
 | [],_=>⟨⟨by simp [cutL],by simp [cutL]⟩,by simp [cutL]⟩
 | x :: l,h=>by
   rw [cutL]
   have hx:=h.1 x (by simp)
   have hgt:=(List.pairwise_cons.1 h.2).1
   split
   ·rename_i hc
    obtain ⟨h1,h2⟩:=cutL_ok hb h.tail
    refine ⟨h1,fun n=>?_⟩
    rw [h2 n,Bool.eq_iff_iff,Bool.and_eq_true,Bool.and_eq_true,any_cons,decide_eq_true_eq]
    constructor
    ·rintro ⟨h3,h4⟩
     exact ⟨Or.inr h3,h4⟩
    ·rintro ⟨h3 | h3,h4⟩
     ·omega
     ·exact ⟨h3,h4⟩
   ·rename_i hc
    refine ⟨⟨fun y hy=>?_,List.pairwise_cons.2 ⟨fun y hy=>hgt y hy,(List.pairwise_cons.1 h.2).2⟩⟩,fun n=>?_⟩
    ·rcases List.mem_cons.1 hy with rfl | hy
     ·show 1≤max x.1 (b + 1)∧max x.1 (b + 1)≤x.2∧x.2≤1000000
      omega
     ·exact h.1 y (by simp [hy])
    ·rw [Bool.eq_iff_iff,Bool.and_eq_true,any_cons,any_cons,decide_eq_true_eq]
     constructor
     ·rintro (h3 | h3)
      ·have h4:max x.1 (b + 1)≤n:=h3.1
       exact ⟨Or.inl ⟨by omega,h3.2⟩,by omega⟩
      ·have:=h.gt h3
       exact ⟨Or.inr h3,by omega⟩
     ·rintro ⟨h3 | h3,h4⟩
      ·exact Or.inl ⟨show max x.1 (b + 1)≤n by omega,h3.2⟩
      ·exact Or.inr h3
theorem less_cut {d out:Array (Int×Int)} {b:Int} (hs:qaw d=0) (hb:0≤b) (h:LessE d (1,b) out):IsN (fun n=>inR d n && decide (b < n)) out∧out.size≤d.size:=by
 obtain ⟨s,h1,h2⟩:=h.1 hs
 have hn:=NL.of_set hs
 have hc:=cutL_ok hb hn
 have h3:IsN (fun n=>inR d n && decide (b < n)) (cutL b d.toList).toArray:=⟨hc.1,fun n=>hc.2 n⟩
 have h4:IsN (fun n=>inR d n && decide (b < n)) s:=h1.congr fun n=>by
  unfold pLess
  by_cases hi:inR d n=true
  ·have:=inR_may hn hi
   rw [hi,Bool.eq_iff_iff]
   simp [qec]
   omega
  ·rw [Bool.not_eq_true] at hi
   rw [hi];rfl
 have h5:s=(cutL b d.toList).toArray:=h4.uniq h3
 have h6:s.size≤d.size:=by
  rw [h5]
  have:=qvn b d.toList
  simpa using this
 have h7:=(qel hs).1
 rw [if_pos (by omega)] at h2
 subst h2
 exact ⟨h4,h6⟩
structure FormR (l:Array (Int×Int)) (base:Int) (ats:Array (Int×Int)) (r:KN):Prop where
 b:r.base=preE l base
 rs:LessE l (1,r.base) r.rs
 at':r.ats=ats
theorem FormR.uniq {l:Array (Int×Int)} {base:Int} {ats:Array (Int×Int)} {r s:KN} (h:FormR l base ats r) (k:FormR l base ats s):r=s:=by
 obtain ⟨rb,rr,ra⟩:=r
 obtain ⟨sb,sr,sa⟩:=s
 have e1:rb=sb:=h.b.trans k.b.symm
 subst e1
 have e2:rr=sr:=h.rs.uniq k.rs
 have e3:ra=sa:=h.at'.trans k.at'.symm
 rw [e2,e3]
structure FormO (l:Array (Int×Int)) (base:Int) (ats:Array (Int×Int)) (r:KN):Prop where
 chk:ChkP r
 up:base≤r.base
 sz:r.rs.size≤l.size
 eat:r.ats=ats
 has:∀ n,hasK r n=true↔(1≤n∧n≤base)∨inR l n=true
 gt:∀ a ∈ ats.toList,r.base < a.1
 out:∀ n,inR r.rs n=(inR l n && decide (r.base < n))
 nx:inR l (r.base + 1)=false
theorem FormR.ok {l:Array (Int×Int)} {base:Int} {ats:Array (Int×Int)} {r:KN} (h:FormR l base ats r) (hs:qaw l=0) (b0:0≤base) (b1:base≤1000000) (hz:ats.size≤400) (hu:qch 1000000 base ats.toList=true) (ho:∀ a ∈ ats.toList,inR l a.1=false):FormO l base ats r:=by
 obtain ⟨p1,p2,p3,p4⟩:=pre_has hs base
 rw [←h.b] at p1 p2 p3 p4
 have hN:=NL.of_set hs
 obtain ⟨q1,q2⟩:=less_cut hs (by omega) h.rs
 have hl:=(qel hs).1
 have hset:qaw r.rs=0:=q1.set (by omega)
 have hr:=(qcz _ _ _).1 hu
 have hgt:∀ a ∈ ats.toList,r.base < a.1:=fun a ha=>by
  have h1:=ho a ha
  have h2:=hr.2 a ha
  by_cases hc:r.base < a.1
  ·exact hc
  ·have:=p3 a.1 h2.1 (by omega)
   rw [h1] at this
   cases this
 have hout:∀ n,inR r.rs n=(inR l n && decide (r.base < n)):=q1.2
 have hck:ChkP r:=by
  refine ⟨by omega,by omega,hset,by rw [h.at'];exact hz,?_,fun h0=>?_,fun a ha=>?_⟩
  ·rw [h.at']
   exact (qcz _ _ _).2 ⟨hr.1,fun x hx=>⟨hgt x hx,(hr.2 x hx).2⟩⟩
  ·have h1:=ok_at hset h0
   have h2:inR r.rs r.rs[0]!.1=true:=inR_yes h0 (by unfold qec;simp;omega)
   rw [hout,Bool.and_eq_true,decide_eq_true_eq] at h2
   by_cases hc:r.rs[0]!.1=r.base + 1
   ·rw [hc,p4] at h2
    cases h2.1
   ·omega
  ·rw [h.at'] at ha
   rw [hout,ho a ha]
   rfl
 refine ⟨hck,p1,q2,h.at',fun n=>?_,hgt,hout,p4⟩
 rw [hasK_iff hck,hout,Bool.and_eq_true,decide_eq_true_eq]
 constructor
 ·rintro (h1 | h1)
  ·by_cases hc:n≤base
   ·exact Or.inl ⟨h1.1,hc⟩
   ·exact Or.inr (p3 n (by omega) h1.2)
  ·exact Or.inr h1.1
 ·rintro (h1 | h1)
  ·exact Or.inl ⟨h1.1,by omega⟩
  ·by_cases hc:r.base < n
   ·exact Or.inr ⟨h1,hc⟩
   ·exact Or.inl ⟨(inR_may hN h1).1,by omega⟩
def AddR (k:KN) (lo hi:Int) (atts:Array (Int×Int)) (r:KN):Prop:=∃ l,IsN (pK k lo hi atts) l∧l.size≤1000∧FormR l k.base (allK k atts) r
theorem AddR.uniq {k:KN} {lo hi:Int} {atts:Array (Int×Int)} {r s:KN} (h:AddR k lo hi atts r) (g:AddR k lo hi atts s):r=s:=by
 obtain ⟨l,h1,_,h2⟩:=h
 obtain ⟨m,g1,_,g2⟩:=g
 have:=h1.uniq g1
 subst this
 exact h2.uniq g2
structure AddA (k:KN) (lo hi:Int) (atts:Array (Int×Int)):Prop where
 chk:ChkP k
 lo0:0≤lo
 le:lo≤hi
 hi1:hi≤1000000
 up:qch hi lo atts.toList=true
def addB (k:KN) (lo hi:Int) (atts:Array (Int×Int)):Bool:=chkB k && decide (0≤lo∧lo≤hi∧hi≤1000000) && qch hi lo atts.toList
theorem add_iff {k:KN} {lo hi:Int} {atts:Array (Int×Int)}:addB k lo hi atts=true↔AddA k lo hi atts:=by
 unfold addB
 rw [Bool.and_eq_true,Bool.and_eq_true,decide_eq_true_eq,qfw]
 constructor
 ·rintro ⟨⟨h1,h2,h3,h4⟩,h5⟩
  exact ⟨h1,h2,h3,h4,h5⟩
 ·rintro ⟨h1,h2,h3,h4,h5⟩
  exact ⟨⟨h1,h2,h3,h4⟩,h5⟩
theorem qjb {k:KN} {atts:Array (Int×Int)} {x:Int×Int}:x ∈ (allK k atts).toList↔x ∈ k.ats.toList∨(x ∈ atts.toList∧k.base < x.1∧inR k.rs x.1=false∧x.1 ∉ qeq k.ats.toList):=by
 unfold allK
 rw [mrgK_mem,fresh_mem]
 simp [and_assoc]
theorem allK_up {k:KN} {lo hi:Int} {atts:Array (Int×Int)} (h:AddA k lo hi atts):qch 1000000 k.base (allK k atts).toList=true:=by
 have h1:=(qcz _ _ _).1 h.chk.up
 have h2:=(qcz _ _ _).1 h.up
 have hh:=h.hi1
 refine (qcz _ _ _).2 ⟨?_,fun x hx=>?_⟩
 ·unfold allK
  refine mrgK_up h1.1 ?_
  show (List.filter _ _).Pairwise _
  exact h2.1.filter _
 ·rcases qjb.1 hx with hx | ⟨hx,hb,_,_⟩
  ·exact h1.2 x hx
  ·have:=h2.2 x hx
   exact ⟨hb,by omega,this.2.2⟩
theorem allK_out {k:KN} {lo hi:Int} {atts:Array (Int×Int)} (h:AddA k lo hi atts):∀ a ∈ (allK k atts).toList,pK k lo hi atts a.1=false:=fun a ha=>by
 rw [Bool.eq_false_iff,Ne,qvm]
 rintro (h1 | ⟨_,h1,h2⟩)
 ·rcases qjb.1 ha with hx | ⟨_,_,hx,_⟩
  ·rw [h.chk.out a hx] at h1;cases h1
  ·rw [hx] at h1;cases h1
 ·rcases qjb.1 ha with hx | ⟨hx,_⟩
  ·exact h2 (List.mem_map.2 ⟨a,hx,rfl⟩)
  ·exact h1 (List.mem_map.2 ⟨a,hx,rfl⟩)
theorem AddR.ok {k r:KN} {lo hi:Int} {atts:Array (Int×Int)} (h:AddA k lo hi atts) (hr:AddR k lo hi atts r) (hz:k.ats.size + atts.size≤400):∃ l,IsN (pK k lo hi atts) l∧l.size≤1000∧FormO l k.base (allK k atts) r:=by
 obtain ⟨l,h1,h2,h3⟩:=hr
 have:=qqv k atts
 exact ⟨l,h1,h2,h3.ok (h1.set h2) h.chk.b0 h.chk.b1 (by omega) (allK_up h) (fun a ha=>(h1.2 a.1).trans (allK_out h a ha))⟩
def qqw (ids:Array Int) (a:Int×Int):Bool:=ids.toList.contains a.2
def qyg (k:KN) (ids:Array Int):Array (Int×Int):=(k.ats.toList.filter fun a=>!qqw ids a).toArray
def pS (k:KN) (ids:Array Int) (n:Int):Bool:=inR k.rs n || k.ats.toList.any fun a=>qqw ids a && (a.1 == n)
def SetR (k:KN) (ids:Array Int) (r:KN):Prop:=∃ l,IsN (pS k ids) l∧l.size≤1000∧FormR l k.base (qyg k ids) r
theorem SetR.uniq {k:KN} {ids:Array Int} {r s:KN} (h:SetR k ids r) (g:SetR k ids s):r=s:=by
 obtain ⟨l,h1,_,h2⟩:=h
 obtain ⟨m,g1,_,g2⟩:=g
 have:=h1.uniq g1
 subst this
 exact h2.uniq g2
theorem qvo {k:KN} {ids:Array Int} {n:Int}:pS k ids n=true↔inR k.rs n=true∨∃ a ∈ k.ats.toList,a.2 ∈ ids.toList∧a.1=n:=by
 unfold pS qqw
 simp only [Bool.or_eq_true,List.any_eq_true,Bool.and_eq_true,List.contains_iff_mem,beq_iff_eq]
theorem SetR.ok {k r:KN} {ids:Array Int} (h:ChkP k) (hr:SetR k ids r):∃ l,IsN (pS k ids) l∧l.size≤1000∧FormO l k.base (qyg k ids) r:=by
 obtain ⟨l,h1,h2,h3⟩:=hr
 have hu:=(qcz _ _ _).1 h.up
 have hz:(qyg k ids).size≤400:=by
  have h4:=List.length_filter_le (fun a=>!qqw ids a) k.ats.toList
  have h5:=h.sz
  unfold qyg
  simp at h4 ⊢
  omega
 refine ⟨l,h1,h2,h3.ok (h1.set h2) h.b0 h.b1 hz ?_ ?_⟩
 ·refine (qcz _ _ _).2 ⟨hu.1.filter _,fun x hx=>hu.2 x (List.mem_filter.1 hx).1⟩
 ·intro a ha
  obtain ⟨h4,h5⟩:=List.mem_filter.1 (show a ∈ k.ats.toList.filter _ from ha)
  rw [h1.2,Bool.eq_false_iff,Ne,qvo]
  rintro (h6 | ⟨x,hx,h7,h8⟩)
  ·rw [h.out a h4] at h6;cases h6
  ·have hxa:x=a:=up_inj hu.1 hx h4 h8
   subst hxa
   simp [qqw] at h5
   exact h5 (by simpa using h7)
end Go.Proofs.YtnmojicfmcbgmaaGreatDoor
namespace Go.Proofs.YtnmojicfmcbgmaaGreatDoor
open Go.RowKit Go.Sort Go.Lib
theorem qnj {α:Type} [Inhabited α] (d:Array α) (k:Nat) (h:k < d.size):d.toList.drop k=d[k]! :: d.toList.drop (k + 1):=by
 rw [List.drop_eq_getElem_cons (by simpa using h),getElem!_pos d k h];rfl
theorem qyh (id:Int):qez id=if okI id=true then 0 else 31:=by
 unfold qez okI
 by_cases h:id < 10∨999999 < id∨id % 10=0
 ·rw [if_pos h,if_neg (by simp;omega)]
 ·rw [if_neg h,if_pos (by simp;omega)]
theorem qyi (id:Int):(qez id != 0) = !okI id:=by rw [qyh];cases okI id <;> rfl
def RiseR (lo hi:Int) (d:Array (Int×Int)) (w:World) (lv iv:Value) (wr:World):Prop:=∃ (k:Nat) (last:Int),iv=.int .i64 (k:Int)∧lv=.int .i64 last∧k≤d.size∧qch hi lo d.toList=qch hi last (d.toList.drop k)∧Below w.heap.size w wr
set_option maxRecDepth 100000 in
set_option maxHeartbeats 1000000 in
theorem rise_any (A:Option Addr) (c:Nat) (d:Array (Int×Int)) (lo hi:Int) (w:World) (h:RdK qbe 2 w.heap.size w A d) (hs:d.size≤1000000) :
 Calls Tryz.prog 182 #[.slice A d.size c,.int .i64 lo,.int .i64 hi] w fun e w'=>e=.returned (.bool (qch hi lo d.toList))∧Below w.heap.size w w':=by
 have HR:=hI h
 clear h
 go_enter Tryz.func182,Tryz.ntmps182
 go_wp2
 go_loopw [7,13] (fun lv iv wr=>RiseR lo hi d w lv iv wr) (fun _ i _=>d.size - (intOf i).toNat)
 case atStart=>exact ⟨0,lo,rfl,rfl,Nat.zero_le _,rfl,Below.refl _ _⟩
 case round =>
  obtain ⟨k,last,rfl,rfl,hk,hat,hB⟩:=hrel
  have HAT:=hI hat
  have HB:=hI hB
  clear hat hB
  by_cases hlt:k < d.size
  ·have kz:(k:Int) < (d.size:Int):=by omega
   obtain ⟨b,off,rfl,hbl,f⟩:=(HR.out.below HB.out).at_ hlt
   have e0:=f 0 (by omega)
   have e1:=f 1 (by omega)
   have HD:=hI (qnj d k hlt)
   generalize d[k]! = x at e0 e1 HD
   simp only [Nat.add_zero,qbe,List.getElem!_cons_zero,List.getElem!_cons_succ] at e0 e1
   clear f
   have HI:=hI (fun W=>qdj x.2 W)
   have hne:=qyi x.2
   cases hid:okI x.2
   ·rw [hid] at hne
    have HF:Hid (qch hi lo d.toList=false):=by show _=_;rw [HAT.out,HD.out];simp [qch,hid]
    clear hid
    go_wp2_with (go_at_call 167;refine (HI.out _).mono ?_;rintro e w' ⟨rfl,rfl⟩)
    all_goals
     go_ret
     exact ⟨qag (by rw [HF.out]),qad HB.out _⟩
   ·rw [hid] at hne
    by_cases hr:last < x.1∧x.1≤hi
    ·have h1:decide (x.1≤last)=false:=by simp;omega
     have h2:decide (hi < x.1)=false:=by simp;omega
     have HN:Hid (qch hi lo d.toList=qch hi x.1 (d.toList.drop (k + 1))):=by show _=_;rw [HAT.out,HD.out];simp [qch,hid,hr]
     clear hid hr
     go_wp2_with (go_at_call 167;refine (HI.out _).mono ?_;rintro e w' ⟨rfl,rfl⟩)
     go_roundw
     case rel=>exact ⟨k + 1,x.1,by go_num,rfl,by omega,HN.out,qad HB.out _⟩
     case measure=>simp [intOf];omega
    ·have HF:Hid (qch hi lo d.toList=false):=by show _=_;rw [HAT.out,HD.out];simp [qch];intro h1 h2;omega
     clear hid
     by_cases h1:x.1≤last
     ·clear hr
      go_wp2
      go_ret
      exact ⟨qag (by rw [HF.out]),qad HB.out _⟩
     ·have h2:hi < x.1:=by omega
      have h1':decide (x.1≤last)=false:=by simp;omega
      clear hr h1
      go_wp2
      go_ret
      exact ⟨qag (by rw [HF.out]),qad HB.out _⟩
  ·have hlt':decide ((k:Int) < (d.size:Int))=false:=by simp;omega
   have HE:Hid (qch hi lo d.toList=true):=by
    show _=_
    rw [HAT.out,List.drop_of_length_le (by simp;omega)];rfl
   go_wp2
   go_ret
   exact ⟨qag HE.out.symm,HB.out⟩
theorem selfN_okI (id:Int):(qbf id == 0) = !okI id:=by
 unfold qbf okI
 by_cases h:id < 10∨999999 < id∨id % 10=0
 ·rw [if_pos h]
  have:decide (10≤id∧id≤999999∧id % 10≠0)=false:=by simp;omega
  rw [this];rfl
 ·rw [if_neg h]
  have:decide (10≤id∧id≤999999∧id % 10≠0)=true:=by simp;omega
  rw [this];simp;omega
def AtR_K (lo hi:Int) (d:Array (Int×Int)) (w:World) (iv:Value) (wr:World):Prop:=∃ (k:Nat) (last:Int),iv=.int .i64 (k:Int)∧k≤d.size∧(k=0→last=lo)∧(∀ j,j + 1=k→last=d[j]!.1)∧lo≤last∧qch hi lo d.toList=qch hi last (d.toList.drop k)∧Below w.heap.size w wr
set_option maxRecDepth 100000 in
set_option maxHeartbeats 8000000 in
theorem rRise_any (A:Option Addr) (c:Nat) (d:Array (Int×Int)) (lo hi:Int) (w:World) (h:RdK qbe 2 w.heap.size w A d) (hs:d.size≤1000000) :
 Calls Tryz.prog 175 #[.slice A d.size c,.int .i64 lo,.int .i64 hi] w fun e w'=>e=.returned (.bool (qch hi lo d.toList))∧Below w.heap.size w w':=by
 have HR:=hI h
 clear h
 go_enter Tryz.func175,Tryz.ntmps175
 go_wp2
 go_loopw [7] (fun i wr=>AtR_K lo hi d w i wr) (fun i _=>d.size - (intOf i).toNat)
 case atStart=>exact ⟨0,lo,rfl,Nat.zero_le _,(fun _=>rfl),(fun j hj=>by omega),by omega,rfl,Below.refl _ _⟩
 case round =>
  obtain ⟨n,last,rfl,hn,hl0,hl1,hll,hat,hB⟩:=hrel
  have HAT:=hI hat
  have HB:=hI hB
  have HL0:=hI hl0
  have HL1:=hI hl1
  clear hat hB hl0 hl1
  by_cases hlt2:n < d.size
  ·have nz:(n:Int) < (d.size:Int):=by omega
   obtain ⟨b,off,rfl,hbl,f⟩:=(HR.out.below HB.out).at_ hlt2
   have e0:=f 0 (by omega)
   have e1:=f 1 (by omega)
   have HD:=hI (qnj d n hlt2)
   have hbw:b < wr.heap.size:=Nat.lt_of_lt_of_le hbl HB.out.size
   obtain ⟨x,hx⟩:∃ x,d[n]! = x:=⟨_,rfl⟩
   rw [hx] at e0 e1 HD
   have HX:=hI hx
   simp only [Nat.add_zero,qbe,List.getElem!_cons_zero,List.getElem!_cons_succ] at e0 e1
   have q0:∀ p:ExtW wr,p.to.cell? ⟨b,off + n * 2,none⟩=some (.int .i64 x.1):=fun p=>(p.h.cell (p:=⟨b,off + n * 2,none⟩) hbw).trans e0
   have HSP:=hI (fun W=>qen x.2 W)
   have z0:=selfN_okI x.2
   clear f hx e0
   cases hid:okI x.2
   ·rw [hid] at z0
    simp only [Bool.not_false] at z0
    have HF:Hid (qch hi lo d.toList=false):=by show _=_;rw [HAT.out,HD.out];simp [qch,hid]
    clear hid
    generalize qbf x.2=sf at z0 HSP
    go_wp2_with (go_at_call 127;refine (HSP.out _).mono ?_;rintro e w' ⟨rfl,rfl⟩)
    refine qae (by kernel_rfl) (by kernel_rfl) ?_
    repeat (first | go_big_quiet_step (fail) | quiet_step (fail))
    refine wpQuiet_nil ?_
    intro w' hw'
    obtain ⟨⟨W,hbW⟩,hw''⟩:=hw'
    have hw3:w'=W:=hw''
    subst hw3
    have HBW:=hI (qac HB.out hbW)
    clear hbW hw''
    go_wp2
    go_ret
    exact ⟨qag (by rw [HF.out]),HBW.out⟩
   ·rw [hid] at z0
    simp only [Bool.not_true] at z0
    by_cases g1:x.1≤lo
    ·have HF:Hid (qch hi lo d.toList=false):=by show _=_;rw [HAT.out,HD.out];simp [qch];intro h1 h2;omega
     have g1':decide (x.1≤lo)=true:=by simp;omega
     clear hid
     generalize qbf x.2=sf at z0 HSP
     go_wp2_with (go_at_call 127;refine (HSP.out _).mono ?_;rintro e w' ⟨rfl,rfl⟩)
     refine qae (by kernel_rfl) (by kernel_rfl) ?_
     repeat (first | go_big_quiet_step (fail) | quiet_step (fail))
     refine wpQuiet_nil ?_
     intro w' hw'
     obtain ⟨⟨W,hbW⟩,hw''⟩:=hw'
     have hw3:w'=W:=hw''
     subst hw3
     have HBW:=hI (qac HB.out hbW)
     clear hbW hw''
     go_wp2
     go_ret
     exact ⟨qag (by rw [HF.out]),HBW.out⟩
    ·have g1':decide (x.1≤lo)=false:=by simp;omega
     by_cases g2:hi < x.1
     ·have HF:Hid (qch hi lo d.toList=false):=by show _=_;rw [HAT.out,HD.out];simp [qch];intro h1 h2;omega
      have g2':decide (hi < x.1)=true:=by simp;omega
      clear hid g1
      generalize qbf x.2=sf at z0 HSP
      go_wp2_with (go_at_call 127;refine (HSP.out _).mono ?_;rintro e w' ⟨rfl,rfl⟩)
      refine qae (by kernel_rfl) (by kernel_rfl) ?_
      repeat (first | go_big_quiet_step (fail) | quiet_step (fail))
      refine wpQuiet_nil ?_
      intro w' hw'
      obtain ⟨⟨W,hbW⟩,hw''⟩:=hw'
      have hw3:w'=W:=hw''
      subst hw3
      have HBW:=hI (qac HB.out hbW)
      clear hbW hw''
      go_wp2
      go_ret
      exact ⟨qag (by rw [HF.out]),HBW.out⟩
     ·have g2':decide (hi < x.1)=false:=by simp;omega
      by_cases g0:0 < n
      ·obtain ⟨n',hn'⟩:∃ n',n' + 1=n:=⟨n - 1,by omega⟩
       have g0':decide ((0:Int) < (n:Int))=true:=by simp;omega
       have hsub:(n:Int) - 1=(n':Int):=by omega
       have nz':(n':Int) < (d.size:Int):=by omega
       obtain ⟨b',off',e',hbl',f'⟩:=(HR.out.below HB.out).at_ (i:=n') (by omega)
       injection e' with e'
       injection e' with eb eo
       subst eb eo
       have u0:=f' 0 (by omega)
       have hlast:=HL1.out n' hn'
       simp only [Nat.add_zero,qbe,List.getElem!_cons_zero] at u0
       rw [←hlast] at u0
       have q2:∀ p:ExtW wr,p.to.cell? ⟨b,off + n' * 2,none⟩=some (.int .i64 last):=fun p=>(p.h.cell (p:=⟨b,off + n' * 2,none⟩) hbw).trans u0
       clear f' u0 hlast
       by_cases g3:x.1≤last
       ·have HF:Hid (qch hi lo d.toList=false):=by show _=_;rw [HAT.out,HD.out];simp [qch];intro h1 h2;omega
        have g3':decide (x.1≤last)=true:=by simp;omega
        clear hid g1 g2 hn'
        generalize qbf x.2=sf at z0 HSP
        go_wp2_with (go_at_call 127;refine (HSP.out _).mono ?_;rintro e w' ⟨rfl,rfl⟩)
        refine qae (by kernel_rfl) (by kernel_rfl) ?_
        repeat (first | go_big_quiet_step (fail) | quiet_step (fail))
        refine wpQuiet_nil ?_
        intro w' hw'
        obtain ⟨⟨W,hbW⟩,hw''⟩:=hw'
        have hw3:w'=W:=hw''
        subst hw3
        have HBW:=hI (qac HB.out hbW)
        clear hbW hw''
        go_wp2
        go_ret
        exact ⟨qag (by rw [HF.out]),HBW.out⟩
       ·have HN:Hid (qch hi lo d.toList=qch hi x.1 (d.toList.drop (n + 1))):=by show _=_;rw [HAT.out,HD.out];simp [qch,hid];intro h;omega
        have g3':decide (x.1≤last)=false:=by simp;omega
        clear hid hn'
        generalize qbf x.2=sf at z0 HSP
        go_wp2_with (go_at_call 127;refine (HSP.out _).mono ?_;rintro e w' ⟨rfl,rfl⟩)
        refine qae (by kernel_rfl) (by kernel_rfl) ?_
        repeat (first | go_big_quiet_step (fail) | quiet_step (fail))
        refine wpQuiet_nil ?_
        intro w' hw'
        obtain ⟨⟨W,hbW⟩,hw''⟩:=hw'
        have hw3:w'=W:=hw''
        subst hw3
        have HBW:=hI (qac HB.out hbW)
        clear hbW hw''
        go_wp2
        go_roundw
        case rel=>exact ⟨n + 1,x.1,by go_num,by omega,(fun h=>by omega),(fun j hj=>by have e:j=n:=(by omega);rw [e,HX.out]),by omega,HN.out,HBW.out⟩
        case measure=>simp [intOf];omega
      ·have g0':decide ((0:Int) < (n:Int))=false:=by simp;omega
       have hlast:=HL0.out (by omega)
       have HN:Hid (qch hi lo d.toList=qch hi x.1 (d.toList.drop (n + 1))):=by show _=_;rw [HAT.out,HD.out];simp [qch,hid];intro h;omega
       clear hid hlast
       generalize qbf x.2=sf at z0 HSP
       go_wp2_with (go_at_call 127;refine (HSP.out _).mono ?_;rintro e w' ⟨rfl,rfl⟩)
       refine qae (by kernel_rfl) (by kernel_rfl) ?_
       repeat (first | go_big_quiet_step (fail) | quiet_step (fail))
       refine wpQuiet_nil ?_
       intro w' hw'
       obtain ⟨⟨W,hbW⟩,hw''⟩:=hw'
       have hw3:w'=W:=hw''
       subst hw3
       have HBW:=hI (qac HB.out hbW)
       clear hbW hw''
       go_wp2
       go_roundw
       case rel=>exact ⟨n + 1,x.1,by go_num,by omega,(fun h=>by omega),(fun j hj=>by have e:j=n:=(by omega);rw [e,HX.out]),by omega,HN.out,HBW.out⟩
       case measure=>simp [intOf];omega
  ·have hlt2':decide ((n:Int) < (d.size:Int))=false:=by simp;omega
   have HE:Hid (qch hi lo d.toList=true):=by
    show _=_
    rw [HAT.out,List.drop_of_length_le (by simp;omega)];rfl
   go_wp2
   go_ret
   exact ⟨qag HE.out.symm,HB.out⟩
end Go.Proofs.YtnmojicfmcbgmaaGreatDoor
namespace Go.Proofs.YtnmojicfmcbgmaaGreatDoor
open Go.RowKit Go.Sort Go.Lib
set_option maxRecDepth 100000
set_option maxHeartbeats 1000000 in
theorem qsx (A:Option Addr) (c:Nat) (fv:Value) (w:World) :
 Calls Tryz.prog 185 #[.slice A 0 c,fv] w fun e w'=>e=.returned (.bool false)∧w=w':=by
 go_enter Tryz.func185,Tryz.ntmps185
 go_wp2
 refine wp_loop_rounds 1 ?_;rw [rounds_succ]
 go_wp2
 go_ret
 exact ⟨rfl,rfl⟩
theorem ContA (p:Int×Int→Bool) (g:Nat) (lb:Array Value) (A:Option Addr) (c:Nat) (d:Array (Int×Int)) (w:World) (h:RdK qbe 2 w.heap.size w A d) (hd:d.size≤100000000) (eg:∀ args w,(callFunc g args).run Tryz.prog w=.ok (.enter g args) w) (hp:PredBelow Tryz.prog g lb (fun x:Int×Int=>.agg (qbe x).toArray) p w) :
 Calls Tryz.prog 185 #[.slice A d.size c,.func (.func g) #[] lb] w fun e w'=>e=.returned (.bool (d.toList.any p))∧Below w.heap.size w w':=by
 rcases Nat.eq_zero_or_pos d.size with h0 | h0
 ·have e0:d=#[]:=Array.eq_empty_of_size_eq_zero h0
  subst e0
  exact (qsx A c _ w).mono fun e w' ⟨he,hw⟩=>⟨by rw [he];rfl,by rw [←hw];exact Below.refl _ _⟩
 ·obtain ⟨b,off,rfl,hb,hc⟩:=h h0
  have:=AnyQ.slices_ContainsFunc Tryz.laysContA 2 Tryz.isAgg29 Tryz.sizeOf29 qbe (fun _=>rfl) p g lb eg b off d.size c d.toList w hp (by simp) (by omega) hb (fun j hj i v hv=>by
   have hj':j < d.size:=by simpa using hj
   have hi:i < 2:=by
    rcases Nat.lt_or_ge i 2 with h' | h'
    ·exact h'
    ·rw [List.getElem?_eq_none (by show 2≤i;exact h')] at hv;cases hv
   have e1:d.toList[j]! = d[j]!:=by simp [hj']
   rw [e1] at hv
   rw [Nat.add_assoc,hc _ (qtj hj' hi),qpd _ _ _ _ _ hj' hi]
   rw [List.getElem!_eq_getElem?_getD,hv];rfl)
  rwa [show d.toList.take d.size=d.toList from List.take_of_length_le (by simp)] at this
end Go.Proofs.YtnmojicfmcbgmaaGreatDoor
namespace Go.Proofs.YtnmojicfmcbgmaaGreatDoor
open Go.RowKit Go.Sort Go.Lib
def KnV (w:World) (v:Value) (k:KN):Prop:=∃ A1 c1 A2 c2,v=.agg #[.int .i64 k.base,.slice A1 k.rs.size c1,.slice A2 k.ats.size c2]∧RdK encR 2 w.heap.size w A1 k.rs∧RdK qbe 2 w.heap.size w A2 k.ats∧(A1=none→c1=0)∧(A2=none→c2=0)
theorem KnV.below {w w':World} {v:Value} {k:KN} (h:KnV w v k) (hb:Below w.heap.size w w'):KnV w' v k:=by
 obtain ⟨A1,c1,A2,c2,e,h1,h2,n1,n2⟩:=h
 exact ⟨A1,c1,A2,c2,e,(h1.below hb).mono hb.size,(h2.below hb).mono hb.size,n1,n2⟩
set_option maxRecDepth 100000
end Go.Proofs.YtnmojicfmcbgmaaGreatDoor
namespace Go.Proofs.YtnmojicfmcbgmaaGreatDoor
open Go.RowKit Go.Sort Go.Lib
theorem box3 {w w1:World} {a b c:Value} {T:TypeId} (hb:Below (w.alloc (.cells #[a,b,c] T)).heap.size (w.alloc (.cells #[a,b,c] T)) w1):w1.cell? ⟨w.heap.size,0,none⟩=some a∧w1.cell? ⟨w.heap.size,1,none⟩=some b∧w1.cell? ⟨w.heap.size,2,none⟩=some c:=by
 refine ⟨?_,?_,?_⟩
 ·exact (hb.cell (p:=⟨w.heap.size,0,none⟩) (by simp)).trans (qco w _ _ 0)
 ·exact (hb.cell (p:=⟨w.heap.size,1,none⟩) (by simp)).trans (qco w _ _ 1)
 ·exact (hb.cell (p:=⟨w.heap.size,2,none⟩) (by simp)).trans (qco w _ _ 2)
theorem has_in {rs:Array (Int×Int)} (h:qaw rs=0) (n:Int):qcf rs n=inR rs n:=by unfold qcf;rw [h];rfl
set_option maxRecDepth 100000
set_option maxHeartbeats 1000000 in
theorem kChk1_any (rs:Array (Int×Int)) (A1:Option Addr) (c1:Nat) (x:Int×Int) (g:Nat) (w:World) (hg:g < w.heap.size) (hc:w.cell? ⟨g,1,none⟩=some (.slice A1 rs.size c1)) (h:RdK encR 2 w.heap.size w A1 rs) :
 Calls Tryz.prog 183 #[.agg #[.int .i64 x.1,.int .i64 x.2],.pointer (some ⟨g,0,none⟩)] w fun e w'=>e=.returned (.bool (qcf rs x.1))∧Below w.heap.size w w':=by
 have HR:=hI h
 clear h
 have hc1:(w.alloc (.cells #[.int .i64 x.1,.int .i64 x.2] 29)).cell? ⟨g,1,none⟩=some (.slice A1 rs.size c1):=(World.cell?_alloc_lt w _ _ hg).trans hc
 have HH:=hI (gHas_any A1 c1 rs x.1 (w.alloc (.cells #[.int .i64 x.1,.int .i64 x.2] 29)) ((HR.out.alloc (Nat.le_refl _) _).mono (bel1 w _).size))
 generalize qcf rs x.1=hv at HH
 go_enter Tryz.func183,Tryz.ntmps183
 go_wp2_with fail
 refine HH.out.mono ?_
 rintro e w1 ⟨rfl,hb1⟩
 go_wp2
 go_ret
 exact ⟨rfl,qac (bel1 w _) hb1⟩
set_option maxHeartbeats 4000000 in
theorem qyj (base:Int) (rs ats:Array (Int×Int)) (A1:Option Addr) (c1:Nat) (A2:Option Addr) (c2:Nat) (w:World) (h1:RdK encR 2 w.heap.size w A1 rs) (h2:RdK qbe 2 w.heap.size w A2 ats) :
 Calls Tryz.prog 160 #[.agg #[.int .i64 base,.slice A1 rs.size c1,.slice A2 ats.size c2]] w fun e w'=>e=.returned (.int .i64 (chkE ⟨base,rs,ats⟩))∧Below w.heap.size w w':=by
 have HC:Hid (∀ W,Below w.heap.size w W→Calls Tryz.prog 165 #[.slice A1 rs.size c1] W fun e w'=>e=.returned (.int .i64 (qaw rs))∧Below W.heap.size W w'):=fun W hb=>qka A1 c1 rs W ((h1.below hb).mono hb.size)
 have HRi:Hid (ats.size≤400→∀ W,Below w.heap.size w W→Calls Tryz.prog 182 #[.slice A2 ats.size c2,.int .i64 base,.int .i64 1000000] W fun e w'=>e=.returned (.bool (qch 1000000 base ats.toList))∧Below W.heap.size W w'):=fun hs W hb=>rise_any A2 c2 ats base 1000000 W ((h2.below hb).mono hb.size) (by omega)
 have HR1:=hI h1
 have HR2:=hI h2
 have hrw:∀ b:Bool,chkB ⟨base,rs,ats⟩=b→chkE ⟨base,rs,ats⟩=if b=true then 0 else 2:=fun b hb=>by unfold chkE;rw [hb]
 clear h1 h2
 by_cases g1:base < 0∨1000000 < base∨qaw rs≠0∨400 < ats.size∨qch 1000000 base ats.toList=false
 ·have HE:Hid (chkE ⟨base,rs,ats⟩=2):=by
   show _=_
   rw [hrw false]
   ·rfl
   ·rw [Bool.eq_false_iff]
    intro h
    have h':=qfw.1 h
    have a1:=h'.b0
    have a2:=h'.b1
    have a3:=h'.rs
    have a4:=h'.sz
    have a5:=h'.up
    simp only at a1 a2 a3 a4 a5
    rcases g1 with g | g | g | g | g
    ·omega
    ·omega
    ·exact g a3
    ·omega
    ·rw [a5] at g;cases g
  clear hrw
  by_cases q1:base < 0
  ·have q1':decide (base < 0)=true:=by simpa using q1
   clear g1 q1
   go_enter Tryz.func160,Tryz.ntmps160
   go_wp2
   go_ret
   exact ⟨qaf HE.out.symm,bel1 w _⟩
  ·have q1':decide (base < 0)=false:=by simpa using q1
   by_cases q2:1000000 < base
   ·have q2':decide (1000000 < base)=true:=by simpa using q2
    clear g1 q1 q2
    go_enter Tryz.func160,Tryz.ntmps160
    go_wp2
    go_ret
    exact ⟨qaf HE.out.symm,bel1 w _⟩
   ·have q2':decide (1000000 < base)=false:=by simpa using q2
    have HQ:Hid (qaw rs≠0∨400 < ats.size∨qch 1000000 base ats.toList=false):=by
     rcases g1 with g | g | g
     ·exact absurd g q1
     ·exact absurd g q2
     ·exact g
    clear g1 q1 q2
    go_enter Tryz.func160,Tryz.ntmps160
    go_wp2_with fail
    refine (HC.out _ (bel1 w _)).mono ?_
    rintro e w1 ⟨rfl,hb1⟩
    obtain ⟨u0,u1,u2⟩:=box3 hb1
    have HB1:=hI (qac (bel1 w _) hb1)
    have hrest:=fun p:ats.size≤400=>HRi.out p w1 HB1.out
    have HR:=hI hrest
    clear hb1 hrest HC
    by_cases q3:qaw rs=0
    ·have q3':(qaw rs != 0)=false:=by simpa using q3
     by_cases q4:400 < ats.size
     ·have q4':decide ((400:Int) < (ats.size:Int))=true:=by simp;omega
      clear q3 q4
      go_wp2
      go_ret
      exact ⟨qaf HE.out.symm,HB1.out⟩
     ·have q4':decide ((400:Int) < (ats.size:Int))=false:=by simp;omega
      have q5:qch 1000000 base ats.toList=false:=by
       rcases HQ.out with g | g | g
       ·exact absurd q3 g
       ·exact absurd g q4
       ·exact g
      have HRR:=hI (HR.out (by omega))
      rw [q5] at HRR
      clear q3 q5 HQ HR
      go_wp2_with fail
      refine HRR.out.mono ?_
      rintro e w2 ⟨rfl,hb2⟩
      go_wp2
      go_ret
      exact ⟨qaf HE.out.symm,qac HB1.out hb2⟩
    ·have q3':(qaw rs != 0)=true:=by simpa using q3
     clear q3 HQ
     go_wp2
     go_ret
     exact ⟨qaf HE.out.symm,HB1.out⟩
 ·obtain ⟨p1,p2,p3,p4,p5⟩:0≤base∧base≤1000000∧qaw rs=0∧ats.size≤400∧qch 1000000 base ats.toList=true:=by
   refine ⟨by omega,by omega,Classical.byContradiction fun h=>g1 (by simp [h]),by omega,?_⟩
   cases hr:qch 1000000 base ats.toList
   ·exact absurd (by simp [hr]) g1
   ·rfl
  have hall:chkB ⟨base,rs,ats⟩=(decide (0 < rs.size→base + 1 < rs[0]!.1) && !(ats.toList.any fun a=>qcf rs a.1)):=by
   have e:(fun a:Int×Int=>qcf rs a.1)=fun a=>inR rs a.1:=funext fun a=>has_in p3 a.1
   rw [e]
   unfold chkB
   simp only [p3,p5,p4]
   simp [p1,p2]
  have HA:=hI hall
  have q1:decide (base < 0)=false:=by simpa using p1
  have q2:decide (1000000 < base)=false:=by simpa using p2
  have q3:(qaw rs != 0)=false:=by simpa using p3
  have q4:decide ((400:Int) < (ats.size:Int))=false:=by simp;omega
  have HRi':=hI (HRi.out p4)
  rw [p5] at HRi'
  have HW:=hI hrw
  have HP4:=hI p4
  have hrs:=(qel p3).1
  have hatN:∀ W,Below w.heap.size w W→0 < rs.size→∃ b off,A1=some ⟨b,off,none⟩∧W.cell? ⟨b,off,none⟩=some (.int .i64 rs[0]!.1):=fun W hb h0=>by
   obtain ⟨b,off,e,_,f⟩:=(HR1.out.below hb).at_ (i:=0) h0
   refine ⟨b,off,e,?_⟩
   have:=f 0 (by omega)
   simpa [encR] using this
  have HN:=hI hatN
  have hclo:∀ g W,g < W.heap.size→W.cell? ⟨g,1,none⟩=some (.slice A1 rs.size c1)→Below w.heap.size w W→Calls Tryz.prog 185 #[.slice A2 ats.size c2,.func (.func 183) #[] #[.pointer (some ⟨g,0,none⟩)]] W fun e w'=>e=.returned (.bool (ats.toList.any fun a=>qcf rs a.1))∧Below W.heap.size W w':=fun g W hg hc hb =>
   ContA (fun a=>qcf rs a.1) 183 #[.pointer (some ⟨g,0,none⟩)] A2 c2 ats W ((HR2.out.below hb).mono hb.size) (by omega) (enters_of Tryz.func183 (by kernel_rfl) rfl)
    (fun W' x hbW=>(kChk1_any rs A1 c1 x g W' (Nat.lt_of_lt_of_le hg hbW.size) ((hbW.cell (p:=⟨g,1,none⟩) hg).trans hc) (((HR1.out.below hb).mono hb.size).below hbW |>.mono hbW.size)).mono fun _ _ ⟨he,hb'⟩=>⟨he,hbW.trans (hb'.mono hbW.size)⟩)
  have HCl:=hI hclo
  clear g1 p3 p5 hall hrw hatN hclo HRi
  go_enter Tryz.func160,Tryz.ntmps160
  go_wp2_with fail
  refine (HC.out _ (bel1 w _)).mono ?_
  rintro e w1 ⟨rfl,hb1⟩
  obtain ⟨u0,u1,u2⟩:=box3 hb1
  have HB1:=hI (qac (bel1 w _) hb1)
  have HRR:=hI (HRi'.out w1 HB1.out)
  have hlt1:w.heap.size < w1.heap.size:=by have:=hb1.size;simp at this;omega
  clear hb1 HC HRi'
  go_wp2_with fail
  refine HRR.out.mono ?_
  rintro e w2 ⟨rfl,hb2⟩
  have v0:=(hb2.cell (p:=⟨w.heap.size,0,none⟩) hlt1).trans u0
  have v1:=(hb2.cell (p:=⟨w.heap.size,1,none⟩) hlt1).trans u1
  have v2:=(hb2.cell (p:=⟨w.heap.size,2,none⟩) hlt1).trans u2
  have hlt2:w.heap.size < w2.heap.size:=Nat.lt_of_lt_of_le hlt1 hb2.size
  have HB2:=hI (qac HB1.out hb2)
  clear hb2 u0 u1 u2 HRR hlt1
  by_cases q5:0 < rs.size
  ·obtain ⟨b,off,rfl,hcell⟩:=HN.out w2 HB2.out q5
   have q5':decide ((0:Int) < (rs.size:Int))=true:=by simp;omega
   obtain ⟨lo,hlo⟩:∃ lo,rs[0]!.1=lo:=⟨_,rfl⟩
   rw [hlo] at hcell
   have HLo:=hI hlo
   clear hlo HN
   by_cases q6:lo≤base + 1
   ·have q6':decide (lo≤base + 1)=true:=by simpa using q6
    have HE:Hid (chkE ⟨base,rs,ats⟩=2):=by
     show _=_
     rw [HW.out false]
     ·rfl
     ·rw [HA.out,Bool.and_eq_false_iff]
      left
      rw [decide_eq_false_iff_not]
      intro h
      have:=h q5
      rw [HLo.out] at this
      omega
    clear q6
    go_wp2
    go_quiet (fail)
    go_wp2
    go_ret
    exact ⟨qaf HE.out.symm,qax HB2.out _⟩
   ·have q6':decide (lo≤base + 1)=false:=by simpa using q6
    have hone:decide (0 < rs.size→base + 1 < rs[0]!.1)=true:=by
     rw [decide_eq_true_iff]
     intro _
     rw [HLo.out]
     omega
    rw [hone,Bool.true_and] at HA
    clear q6 hone
    go_wp2
    go_quiet (fail)
    have HCC:=hI (HCl.out w.heap.size (w2.drewN nq) hlt2 v1 (qax HB2.out _))
    cases hany:(ats.toList.any fun a=>qcf rs a.1)
    ·rw [hany] at HCC HA
     have HE:Hid (chkE ⟨base,rs,ats⟩=0):=by show _=_;rw [HW.out true HA.out];rfl
     clear hany
     go_wp2_with fail
     refine HCC.out.mono ?_
     rintro e w3 ⟨rfl,hb3⟩
     go_wp2
     go_ret
     exact ⟨qaf HE.out.symm,qac (qax HB2.out _) hb3⟩
    ·rw [hany] at HCC HA
     have HE:Hid (chkE ⟨base,rs,ats⟩=2):=by show _=_;rw [HW.out false HA.out];rfl
     clear hany
     go_wp2_with fail
     refine HCC.out.mono ?_
     rintro e w3 ⟨rfl,hb3⟩
     go_wp2
     go_ret
     exact ⟨qaf HE.out.symm,qac (qax HB2.out _) hb3⟩
  ·have q5':decide ((0:Int) < (rs.size:Int))=false:=decide_eq_false (by omega)
   have q5n:decide (0 < rs.size)=false:=decide_eq_false q5
   have hone:decide (0 < rs.size→base + 1 < rs[0]!.1)=true:=by
    rw [decide_eq_true_iff]
    intro h
    exact absurd h q5
   rw [hone,Bool.true_and] at HA
   clear q5 hone HN
   go_wp2
   go_quiet (fail)
   have HCC:=hI (HCl.out w.heap.size (w2.drewN nq) hlt2 v1 (qax HB2.out _))
   cases hany:(ats.toList.any fun a=>qcf rs a.1)
   ·rw [hany] at HCC HA
    have HE:Hid (chkE ⟨base,rs,ats⟩=0):=by show _=_;rw [HW.out true HA.out];rfl
    clear hany
    go_wp2_with fail
    refine HCC.out.mono ?_
    rintro e w3 ⟨rfl,hb3⟩
    go_wp2
    go_ret
    exact ⟨qaf HE.out.symm,qac (qax HB2.out _) hb3⟩
   ·rw [hany] at HCC HA
    have HE:Hid (chkE ⟨base,rs,ats⟩=2):=by show _=_;rw [HW.out false HA.out];rfl
    clear hany
    go_wp2_with fail
    refine HCC.out.mono ?_
    rintro e w3 ⟨rfl,hb3⟩
    go_wp2
    go_ret
    exact ⟨qaf HE.out.symm,qac (qax HB2.out _) hb3⟩
theorem qyk (v:Value) (k:KN) (w:World) (h:KnV w v k):Calls Tryz.prog 160 #[v] w fun e w'=>e=.returned (.int .i64 (chkE k))∧Below w.heap.size w w':=by
 obtain ⟨A1,c1,A2,c2,rfl,h1,h2,_,_⟩:=h
 exact qyj k.base k.rs k.ats A1 c1 A2 c2 w h1 h2
end Go.Proofs.YtnmojicfmcbgmaaGreatDoor
