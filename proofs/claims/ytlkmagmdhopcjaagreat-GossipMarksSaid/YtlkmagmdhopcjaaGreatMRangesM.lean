/- Texts that the law leans on. -/
import Derived.Deep.RegionHeld3
import Derived.Deep.DrawnRows
import Derived.Test.YtlkmagmdhopcjaaGreatMRangesL
import Derived.Test.YtlkmagmdhopcjaaGreatMStableK
import Derived.Laws.StructEq
namespace Go.Proofs.YtlkmagmdhopcjaaGreat
open Go.RowKit Go.Sort Go.Lib
attribute [local go_sem ↓] Go.wp_at_zero Go.wp_at_succ
theorem qml {P:Program} {w:World} {ops:Array Oper} {o:Oper} {a:Act} {K:Act→World→Prop} {Q:Exit→Act→World→Prop} {E:Prop} (hgd:o.guard=none) (s x:Operand) (t:TypeId)
 (ho:o.op=.call { callee:=.builtin .append,args:=#[s,x],argTypes:=#[t,t] })
 (w0:World) (e:TypeId) (i:TypeInfo) (z:Value) (size bytes:Nat) (ht:P.underlying t=some (.slice e)) (hi:P.info? e=some i) (hz:i.zero=some z)
 (hsize:i.size=size) (hby:i.bytes=bytes) (hzs:z.cells.size=size) (hsz:0 < size)
 (v:Value) (n:Nat) (xs:List Value) (hs:a.eval s=v) (hown:w.ownsRow w0.heap.size e size v n xs)
 (ad:Addr) (m c:Nat) (news:List Value) (hx:a.eval x=.slice (some ad) m c) (hl:news.length=m * size) (hnews:∀ j u,news[j]?=some u→w.cell? (ad.add j)=some u) (h1:∀ u ∈ news,u.oneCell'=true)
 (h63:n + m≤maxLen) (hbytes:(n + m) * bytes≤140737488355328) (hB:Below w0.heap.size w0 w)
 (h:∀ v' w',w'.ownsRow w0.heap.size e size v' (n + m) (xs ++ news)→w.grownBy w' v.ownBlock→Below w0.heap.size w0 w'→K (a.put o.dst v') w') :
 if Region.wanted o (yielded ops a.tmps)=true then Oper.wp P o a w K Q else E:=by
 have hw:Region.wanted o (yielded ops a.tmps)=true:=by simp [Region.wanted,hgd]
 rw [if_pos hw]
 obtain ⟨v',w',hr,h2,h3,_,_⟩:=run_append_own_at (P:=P) w w0.heap.size t o.type e i z size bytes ht hi hz hsize hby hzs hsz v n xs hown ad m c news hl hnews h1 h63 hbytes hB.size
 unfold Oper.wp execOp
 simp only [ho,resolve,invoke,builtin,Sem.run_bind,Sem.run_pure,Result.andThen_ok,List.map_toArray,List.map_cons,List.map_nil,hs,hx,hr]
 exact h v' w' h2 h3 (hB.grown h3 hB.size (fun k hk=>(hown.lt k hk).1))
end Go.Proofs.YtlkmagmdhopcjaaGreat
namespace Go.Proofs.YtlkmagmdhopcjaaGreat
open Go.RowKit Go.Sort Go.Lib
theorem NL.at_ {d:Array (Int×Int)} (h:NL d.toList) {k:Nat} (hk:k < d.size):1≤d[k]!.1∧d[k]!.1≤d[k]!.2∧d[k]!.2≤1000000:=h.1 _ (by rw [getElem!_pos d k hk];simp)
theorem qvr {w wr w1:World} {B:Nat} {o:Obj} {e:TypeId} {s n:Nat} {v:Value} {xs:List Value} (hb:Below B w wr) (hB:B≤wr.heap.size) (hown:wr.ownsRow B e s v n xs) (hg:(wr.alloc o).grownBy w1 v.ownBlock):Below B w w1 :=
 (hb.alloc hB o).grown hg (by simp;omega) (fun k hk=>(hown.lt k hk).1)
end Go.Proofs.YtlkmagmdhopcjaaGreat
namespace Go.Proofs.YtlkmagmdhopcjaaGreat
open Go.RowKit Go.Sort Go.Lib
theorem flat_lit (l:List (Int×Int)):(l.flatMap encR).toArray=flatK encR 2 l.toArray:=by
 apply Array.ext'
 rw [qcm qdl]
def RdV (w:World) (v:Value) (out:Array (Int×Int)):Prop:=∃ A c,v=.slice A out.size c∧RdK encR 2 w.heap.size w A out∧(A=none→c=0)
theorem RdV.below {w w':World} {v:Value} {out:Array (Int×Int)} (h:RdV w v out) (hb:Below w.heap.size w w'):RdV w' v out:=by
 obtain ⟨A,c,rfl,hr,hn⟩:=h
 exact ⟨A,c,rfl,(hr.below hb).mono hb.size,hn⟩
theorem RdV.own {w:World} {base:Nat} {e:TypeId} {v:Value} {out:Array (Int×Int)} (h:w.ownsRow base e 2 v out.size (flatK encR 2 out).toList):RdV w v out:=qaw h
def AddE (d1 d2 out:Array (Int×Int)):Prop:=(qam d1=0→Fit (pAdd d1 d2) d1 out)∧(qam d1≠0→out=#[])
def LessE (d:Array (Int×Int)) (r:Int×Int) (out:Array (Int×Int)):Prop:=(qam d=0→Fit (qpu d r) d out)∧(qam d≠0→out=#[])
def GapsE (d:Array (Int×Int)) (r:Int×Int) (out:Array (Int×Int)):Prop:=(qam d=0→Fit (pGaps d r) #[] out)∧(qam d≠0→out=#[])
theorem AddE.uniq {d1 d2 a b:Array (Int×Int)} (h:AddE d1 d2 a) (k:AddE d1 d2 b):a=b:=by
 by_cases hs:qam d1=0
 ·exact (h.1 hs).uniq (k.1 hs)
 ·rw [h.2 hs,k.2 hs]
theorem LessE.uniq {d a b:Array (Int×Int)} {r:Int×Int} (h:LessE d r a) (k:LessE d r b):a=b:=by
 by_cases hs:qam d=0
 ·exact (h.1 hs).uniq (k.1 hs)
 ·rw [h.2 hs,k.2 hs]
theorem GapsE.uniq {d a b:Array (Int×Int)} {r:Int×Int} (h:GapsE d r a) (k:GapsE d r b):a=b:=by
 by_cases hs:qam d=0
 ·exact (h.1 hs).uniq (k.1 hs)
 ·rw [h.2 hs,k.2 hs]
theorem Fit.size {p:Int→Bool} {was out:Array (Int×Int)} (h:Fit p was out) (hw:was.size≤1000):out.size≤1000:=by
 obtain ⟨s,_,rfl⟩:=h
 split
 ·assumption
 ·exact hw
theorem AddE.size {d1 d2 out:Array (Int×Int)} (h:AddE d1 d2 out):out.size≤1000:=by
 by_cases hs:qam d1=0
 ·exact (h.1 hs).size (qdm hs).1
 ·rw [h.2 hs];simp
theorem LessE.size {d out:Array (Int×Int)} {r:Int×Int} (h:LessE d r out):out.size≤1000:=by
 by_cases hs:qam d=0
 ·exact (h.1 hs).size (qdm hs).1
 ·rw [h.2 hs];simp
theorem GapsE.size {d out:Array (Int×Int)} {r:Int×Int} (h:GapsE d r out):out.size≤1000:=by
 by_cases hs:qam d=0
 ·exact (h.1 hs).size (by simp)
 ·rw [h.2 hs];simp
end Go.Proofs.YtlkmagmdhopcjaaGreat
namespace Go.Proofs.YtlkmagmdhopcjaaGreat
open Go.RowKit Go.Sort Go.Lib
theorem IsN.fit {p:Int→Bool} {s was:Array (Int×Int)} (h:IsN p s) (hs:s.size≤1000):Fit p was s:=⟨s,h,by rw [if_pos hs]⟩
theorem NL.lit {d:Array (Int×Int)} (h:qam d=0):NL d.toList:=NL.of_set h
theorem RdK.lit (w:World) (l:List (Int×Int)) (cs:Array Value) (h:cs=(l.flatMap encR).toArray) (e:TypeId):RdK encR 2 (w.alloc (.cells cs e)).heap.size (w.alloc (.cells cs e)) (some ⟨w.heap.size,0,none⟩) l.toArray :=
 (RdK.new w encR 2 l.toArray e cs (h.trans (flat_lit l))).mono (by simp)
theorem RdK.up {B:Nat} {w w':World} {A:Option Addr} {d:Array (Int×Int)} (h:RdK encR 2 w.heap.size w A d) (hb:Below w.heap.size w w') (_:B=B):RdK encR 2 w'.heap.size w' A d:=(h.below hb).mono hb.size
end Go.Proofs.YtlkmagmdhopcjaaGreat
namespace Go.Proofs.YtlkmagmdhopcjaaGreat
open Go.RowKit Go.Sort Go.Lib
theorem Formed.isN {m was out:Array (Int×Int)} (h:Formed m was out) (hm:∀ x ∈ m,isR x=true→1≤x.1∧x.1≤x.2∧x.2≤1000000) (hs:m.size≤1000):IsN (inR m) out∧out.size≤m.size:=by
 obtain ⟨s,hs',ho⟩:=h.fit hm
 obtain ⟨d',hd',ho'⟩:=h
 have hsz:(qkf (d'.toList.filter isR)).size≤m.size:=by
  have:=qkg (d'.toList.filter isR) #[]
  have h2:=List.length_filter_le isR d'.toList
  have h5:d'.toList.length=m.size:=by rw [Array.length_toList,hd'.1]
  have h6:(#[]:Array (Int×Int)).size=0:=rfl
  rw [h6] at this
  unfold qkf
  omega
 rw [if_pos (by omega)] at ho'
 refine ⟨?_,by rw [ho'];exact hsz⟩
 by_cases hc:s.size≤1000
 ·rw [if_pos hc] at ho;rw [ho];exact hs'
 ·have h3:=(Formed.fit (was:=#[]) ⟨d',hd',rfl⟩ hm)
  obtain ⟨s2,hs2,ho2⟩:=h3
  have:s=s2:=hs'.uniq hs2
  subst this
  rw [if_pos (show (qkf (d'.toList.filter isR)).size≤1000 by omega),if_neg hc] at ho2
  have h4:=(Formed.fit (was:=#[(0,0)]) ⟨d',hd',rfl⟩ hm)
  obtain ⟨s3,hs3,ho3⟩:=h4
  have:s=s3:=hs'.uniq hs3
  subst this
  rw [if_pos (show (qkf (d'.toList.filter isR)).size≤1000 by omega),if_neg hc,ho2] at ho3
  simp at ho3
theorem IsN.congr {p q:Int→Bool} {s:Array (Int×Int)} (h:IsN p s) (e:∀ n,p n=q n):IsN q s:=⟨h.1,fun n=>(h.2 n).trans (e n)⟩
theorem IsN.set {p:Int→Bool} {s:Array (Int×Int)} (h:IsN p s) (hs:s.size≤1000):qam s=0:=h.1.set hs
theorem IsN.has {p:Int→Bool} {s:Array (Int×Int)} (h:IsN p s) (hs:s.size≤1000) (n:Int):qbx s n=p n:=by
 unfold qbx;rw [h.set hs,h.2 n];simp
theorem add_few {d1 d2 out:Array (Int×Int)} (hs:qam d1=0) (h:Formed (qib d1 d2 d2.size) d1 out) (hz:d1.size + d2.size≤1000):IsN (pAdd d1 d2) out∧out.size≤d1.size + d2.size:=by
 have:=h.isN (qpr hs _) (by rw [qhu];exact hz)
 rw [qhu] at this
 refine ⟨this.1.congr fun n=>?_,this.2⟩
 rw [Bool.eq_iff_iff,qvo]
 unfold pAdd
 rw [Bool.and_eq_true,Bool.or_eq_true,qjo,←qoh]
 constructor
 ·rintro (h | h)
  ·exact ⟨qis (NL.of_set hs) h,Or.inl h⟩
  ·exact ⟨h.1,Or.inr h.2⟩
 ·rintro ⟨h,h1 | h1⟩
  ·exact Or.inl h1
  ·exact Or.inr ⟨h,h1⟩
theorem qmm {d:Array (Int×Int)} (hs:qam d=0) (b:Int):b≤preE d b∧(preE d b≤b∨preE d b≤1000000)∧(∀ n,b < n→n≤preE d b→inR d n=true)∧inR d (preE d b + 1)=false:=by
 have hd:=NL.of_set hs
 unfold preE
 rw [if_pos hs]
 cases hf:d.toList.find? (preB b) with
 | none =>
   refine ⟨Int.le_refl _,Or.inl (Int.le_refl _),fun n h1 h2=>?_,?_⟩
   ·simp at h2;omega
   ·rw [Bool.eq_false_iff]
    intro hn
    obtain ⟨x,hx,h1,h2⟩:=qkh.1 hn
    have:=List.find?_eq_none.1 hf x hx
    unfold preB at this
    simp at this h1 h2
    omega
 | some x =>
   have hx:=List.mem_of_find?_eq_some hf
   have hp:=List.find?_some hf
   unfold preB at hp
   simp only [decide_eq_true_eq] at hp
   have o:=hd.1 x hx
   simp only [Option.map_some,Option.getD_some]
   refine ⟨by omega,Or.inr o.2.2,fun n h1 h2=>qkh.2 ⟨x,hx,by omega,h2⟩,?_⟩
   rw [Bool.eq_false_iff]
   intro hn
   obtain ⟨y,hy,h1,h2⟩:=qkh.1 hn
   obtain ⟨i,hi,rfl⟩:=List.mem_iff_getElem.1 hx
   obtain ⟨j,hj,rfl⟩:=List.mem_iff_getElem.1 hy
   have hpw:=List.pairwise_iff_getElem.1 hd.2
   rcases Nat.lt_trichotomy i j with h | rfl | h
   ·have:=hpw i j hi hj h;omega
   ·omega
   ·have:=hpw j i hj hi h;omega
theorem qvs (A1:Option Addr) (c1:Nat) (d1:Array (Int×Int)) (A2:Option Addr) (c2:Nat) (d2:Array (Int×Int)) (w:World) (h1:RdK encR 2 w.heap.size w A1 d1) (h2:RdK encR 2 w.heap.size w A2 d2) (hs:qam d1=0) (hz:d1.size + d2.size≤1000) :
 Calls Tryz.prog 75 #[.slice A1 d1.size c1,.slice A2 d2.size c2] w fun e w'=>∃ v out,e=.returned v∧IsN (pAdd d1 d2) out∧out.size≤d1.size + d2.size∧RdV w' v out∧Below w.heap.size w w' :=
 (gAdd_any A1 c1 d1 A2 c2 d2 w h1 h2 (by omega)).mono fun _ _ ⟨v,out,he,ho1,_,hown,hb⟩=>⟨v,out,he,(add_few hs (ho1 hs) hz).1,(add_few hs (ho1 hs) hz).2,RdV.own hown,hb⟩
end Go.Proofs.YtlkmagmdhopcjaaGreat
