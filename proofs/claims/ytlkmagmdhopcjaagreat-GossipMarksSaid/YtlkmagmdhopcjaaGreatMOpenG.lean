/- Texts that the law leans on. -/
import Derived.Deep.Fields
import Derived.Deep.Slices
import Derived.Lib.SmallJoins
import Derived.Test.YtlkmagmdhopcjaaGreatMLaw
import Derived.Test.YtlkmagmdhopcjaaGreatMRead
namespace Go.Proofs.YtlkmagmdhopcjaaGreat
open Go.ChangeShapes Go.WideShapes Go.ChangeAt Go.RowKit Go.Deep Go.Joins
section
variable {H:Type} {enc:TypeId×Value→H} {P:Program} {w:World} {base:Nat} {sp:Nat→Bool} {held:Bool}
theorem qiq {t:TypeId} {fs:Array Field} {n:Nat} {cs:List Value} {x:DataW H×List MemPlace} (hs:P.underlying t=some (.struct fs)) (hone:oneCellFields P fs=true) (hC:P.cellsOf t=fs.size)
 (h:DataW.trod enc P w base sp held n t cs=some x):cs.length=fs.size∧∀ (j:Nat) (u:TypeId),(fs[j]?).map (·.type)=some u→∃ c y m,cs[j]?=some c∧DataW.trod enc P w base sp held m u [c]=some y:=by
 obtain ⟨xs,m,_,_,hcl,hlen,hg⟩:=DataW.trod_struct hs h
 rw [hC] at hcl
 refine ⟨hcl,fun j u hj=>?_⟩
 obtain ⟨f,hf1,hf2⟩:=Option.map_eq_some_iff.1 hj
 obtain ⟨o,k⟩:=hone_of hone j f hf1
 have hjl:j < fs.size:=(Array.getElem?_eq_some_iff.1 hf1).1
 have hjc:j < cs.length:=by omega
 have h1:=hg j f hf1
 rw [o,k] at h1
 have hone':(cs.drop j).take 1=[cs[j]]:=by
  rw [List.drop_eq_getElem_cons hjc,List.take_succ_cons,List.take_zero]
 rw [hone',hf2] at h1
 have hys:xs[j]?=some (xs[j]'(by omega)):=List.getElem?_eq_getElem (by omega)
 exact ⟨cs[j],xs[j]'(by omega),m,List.getElem?_eq_getElem hjc,h1.trans hys⟩
theorem qag {t:TypeId} {v:Value} {n:Nat} {y:DataW H×List MemPlace} (ht:P.underlying t=some (.int .i64)) (h:DataW.trod enc P w base sp held n t [v]=some y):∃ x:Int,v=.int .i64 x:=by
 obtain ⟨a,e0,_,_⟩:=DataW.trod_int ht h
 exact ⟨a,by simpa using e0⟩
theorem qgo {t:TypeId} {v:Value} {n:Nat} {y:DataW H×List MemPlace} (ht:P.underlying t=some .string) (h:DataW.trod enc P w base sp held n t [v]=some y):∃ s:ByteArray,v=.string s:=by
 obtain ⟨a,e0,_,_⟩:=DataW.trod_string ht h
 exact ⟨a,by simpa using e0⟩
theorem qmf {a:Addr} {v:Value} (h:w.cell? a=some v):a.block < w.heap.size:=by
 rcases Nat.lt_or_ge a.block w.heap.size with hl | hl
 ·exact hl
 ·unfold World.cell? at h
  rw [Array.getElem?_eq_none hl] at h
  cases h
theorem qcu {α:Type} [Inhabited α] {en:α→List Value} {k:Nat} {Q:α→Prop} {t e:TypeId} {v:Value} {n:Nat} {y:DataW H×List MemPlace} (ht:P.underlying t=some (.slice e)) (hC:P.cellsOf e=k) (hk:∀ x,(en x).length=k) (hk0:0 < k)
 (hel:∀ n cs x,DataW.trod enc P w 0 (fun _=>true) true n e cs=some x→∃ a:α,cs=en a∧Q a)
 (h:DataW.trod enc P w 0 (fun _=>true) true n t [v]=some y) :
 ∃ (A:Option Addr) (c:Nat) (z:Array α),v=.slice A z.size c∧RdK en k w.heap.size w A z∧(∀ i,i < z.size→Q z[i]!)∧z.size≤c∧(A=none→c=0):=by
 rcases open_slice ht h with ⟨hcs,_⟩ | ⟨a,len,cap',m,n,D,Pl,hcs,_,hl,hm,hmm,_,hi⟩
 ·simp at hcs
  subst hcs
  exact ⟨none,0,#[],rfl,(fun h=>absurd h (by simp)),(fun i hi=>absurd hi (by simp)),Nat.le_refl _,fun _=>rfl⟩
 ·simp at hcs
  subst hcs
  simp at hmm
  subst hmm
  have hx:∀ i,i < len→∃ y:α,(∀ c,c < k→w.cell? ((a.add (i * k)).add c)=(en y)[c]?)∧Q y:=by
   intro i hil
   obtain ⟨cs',hc,ht'⟩:=hi i (by omega)
   rw [hC] at hc
   obtain ⟨y,rfl,hq⟩:=hel _ _ _ ht'
   obtain ⟨_,_,hat⟩:=World.cells?_some hc
   exact ⟨y,hat,hq⟩
  obtain ⟨f,hf'⟩:=choose_lt hx
  have hsz:((List.range len).map f).toArray.size=len:=by simp
  have hget:∀ i,i < len→((List.range len).map f).toArray[i]! = f i:=fun i hi=>by simp [hi]
  refine ⟨some a,_,((List.range len).map f).toArray,by rw [hsz],fun hp=>?_,fun i hi=>?_,by rw [hsz];exact hl,fun h=>by cases h⟩
  ·rw [hsz] at hp
   have h00:=(hf' 0 hp).1 0 hk0
   have hsome:∃ u,(en (f 0))[0]?=some u:=⟨(en (f 0))[0]'(by rw [hk];exact hk0),List.getElem?_eq_getElem (by rw [hk];exact hk0)⟩
   obtain ⟨u,hu⟩:=hsome
   rw [hu] at h00
   obtain ⟨b,off,spot⟩:=a
   have hspot:spot=none:=by simpa [Addr.add] using World.cell?_spot h00
   subst hspot
   have hb:b < w.heap.size:=by
    have:=qmf h00
    simpa [Addr.add] using this
   refine ⟨b,off,rfl,hb,fun t ht=>?_⟩
   rw [hsz] at ht
   have hq:t / k < len:=(Nat.div_lt_iff_lt_mul hk0).2 ht
   have hr:t % k < k:=Nat.mod_lt _ hk0
   rw [Go.Sort.get_flatK _ _ _ _ (by rw [hsz];exact ht),hget _ hq]
   have g:=(hf' (t / k) hq).1 (t % k) hr
   rw [Addr.add_lit,Addr.add_lit] at g
   have hd:off + t / k * k + t % k=off + t:=by have:=Nat.div_add_mod' t k;omega
   rw [hd] at g
   rw [g,List.getElem?_eq_getElem (by rw [hk];exact hr),List.getElem!_eq_getElem?_getD,List.getElem?_eq_getElem (by rw [hk];exact hr)]
   rfl
  ·rw [hsz] at hi
   rw [hget i hi]
   exact (hf' i hi).2
end
end Go.Proofs.YtlkmagmdhopcjaaGreat
