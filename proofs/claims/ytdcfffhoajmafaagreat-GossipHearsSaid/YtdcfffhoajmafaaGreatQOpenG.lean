/- Texts that the law leans on. -/
import Derived.Lib.SmallJoins
import Derived.Test.YtdcfffhoajmafaaGreatQLaw
import Derived.Test.YtdcfffhoajmafaaGreatQRead
namespace Go.Proofs.YtdcfffhoajmafaaGreat
open Go.ChangeShapes Go.WideShapes Go.ChangeAt Go.RowKit Go.Deep Go.Joins Go.Proofs.Tryz
section
variable {H:Type} {enc:TypeId×Value->H} {P:Program} {w:World} {base:Nat} {sp:Nat->Bool} {held:Bool}
theorem qjc {t:TypeId} {d:Array Field} {n:Nat} {cs:List Value} {x:DataW H×List MemPlace} (C:P.underlying t=some (.struct d)) (i:oneCellFields P d=true) (v:P.cellsOf t=d.size)
 (h:DataW.trod enc P w base sp held n t cs=some x):cs.length=d.size/\∀ (j:Nat) (u:TypeId),(d[j]?).map (·.type)=some u->∃ c y m,cs[j]?=some c/\DataW.trod enc P w base sp held m u [c]=some y:=by
 obtain ⟨r,m,_,_,e,s,z⟩:=DataW.trod_struct C h;rw [v] at e;refine ⟨e,fun j u A=>?_⟩;obtain ⟨f,a,p⟩:=Option.map_eq_some_iff.1 A;obtain ⟨o,k⟩:=hone_of i j f a;have B:j < d.size:=(vbm.1 a).1;have g:j < cs.length:=by omega
 have l:=z j f a;rw [o,k] at l;have b:(cs.drop j).take 1=[cs[j]]:=by
  rw [vdp g,List.take_succ_cons,List.take_zero]
 rw [b,p] at l;have q:r[j]?=some (r[j]'(by omega)):=vbl jo;exact ⟨cs[j],r[j]'(by omega),m,vbl g,l.trans q⟩
theorem qah {t:TypeId} {v:Value} {n:Nat} {y:DataW H×List MemPlace} (c:P.underlying t=some (.int .i64)) (h:DataW.trod enc P w base sp held n t [v]=some y):∃ x:Int,v=.int .i64 x:=by
 obtain ⟨a,b,_,_⟩:=DataW.trod_int c h;exact ⟨a,by simpa using b⟩
theorem qgy {t:TypeId} {v:Value} {n:Nat} {y:DataW H×List MemPlace} (c:P.underlying t=some .string) (h:DataW.trod enc P w base sp held n t [v]=some y):∃ s:ByteArray,v=.string s:=by
 obtain ⟨a,b,_,_⟩:=DataW.trod_string c h;exact ⟨a,by simpa using b⟩
theorem qmp {a:Addr} {v:Value} (h:w.cell? a=some v):a.block < w.heap.size:=by
 rcases val a.block w.heap.size with b | b
 .exact b
 unfold World.cell? at h;rw [vbn b] at h;cases h
theorem qdp {α:Type} [Inhabited α] {en:α->List Value} {k:Nat} {Q:α->Prop} {t e:TypeId} {v:Value} {n:Nat} {y:DataW H×List MemPlace} (G:P.underlying t=some (.slice e)) (X:P.cellsOf e=k) (J:∀ x,(en x).length=k) (o:0 < k)
 (M:∀ n S x,DataW.trod enc P w 0 (fun _=>true) true n e S=some x->∃ a:α,S=en a/\Q a)
 (h:DataW.trod enc P w 0 (fun _=>true) true n t [v]=some y) :
 ∃ (A:Option Addr) (c:Nat) (z:Array α),v=.slice A z.size c/\RdK en k w.heap.size w A z/\(∀ i,i < z.size->Q z[i]!)/\z.size<=c/\(A=none->c=0):=by
 rcases open_slice G h with ⟨l,_⟩ | ⟨a,d,R,m,n,D,Pl,l,_,hl,hm,F,_,p⟩
 .simp at l
  subst l;exact ⟨none,0,#[],rfl,(fun h=>absurd h js),(fun i p=>absurd p js),vaa _,fun _=>rfl⟩
 simp at l;subst l;simp at F;subst F;have hx:∀ i,i < d->∃ y:α,(∀ c,c < k->w.cell? ((a.add (i * k)).add c)=(en y)[c]?)/\Q y:=by
  intro i a0;obtain ⟨V,T,O⟩:=p i jo;rw [X] at T;obtain ⟨y,rfl,K⟩:=M _ _ _ O;obtain ⟨_,_,L⟩:=World.cells?_some T;exact ⟨y,L,K⟩
 obtain ⟨f,s⟩:=choose_lt hx;have j:((List.range d).map f).toArray.size=d:=by simp
 have q:∀ i,i < d->((List.range d).map f).toArray[i]! = f i:=fun i p=>by simp [p]
 refine ⟨some a,_,((List.range d).map f).toArray,by rw [j],fun U=>?_,fun i p=>?_,by rw [j];exact hl,fun h=>by cases h⟩
 .rw [j] at U
  have r:=(s 0 U).1 0 o;have B:∃ u,(en (f 0))[0]?=some u:=⟨(en (f 0))[0]'(by rw [J];exact o),vbl (by rw [J];exact o)⟩
  obtain ⟨u,hu⟩:=B;rw [hu] at r;obtain ⟨b,E,I⟩:=a;have C:I=none:=by simpa [Addr.add] using World.cell?_spot r
  subst C;have Y:b < w.heap.size:=by
   have:=qmp r
   simpa [Addr.add] using this
  refine ⟨b,E,rfl,Y,fun t G=>?_⟩;rw [j] at G;have K:t / k < d:=(Nat.div_lt_iff_lt_mul o).2 G;have N:t % k < k:=Nat.mod_lt _ o;rw [Go.Sort.get_flatK _ _ _ _ (by rw [j];exact G),q _ K];have g:=(s (t / k) K).1 (t % k) N;rw [Addr.add_lit,Addr.add_lit] at g;have Z:E + t / k * k + t % k=E + t:=by have:=Nat.div_add_mod' t k;omega
  rw [Z] at g;rw [g,vbl (by rw [J];exact N),vdg,vbl (by rw [J];exact N)];rfl
 rw [j] at p;rw [q i p];exact (s i p).2
end
