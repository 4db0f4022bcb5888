/- Texts that the law leans on. -/
import Derived.Test.YtdcfffhoajmafaaGreatQOpenG
import Derived.Test.YtdcfffhoajmafaaGreatQEnC
set_option maxRecDepth 100000
namespace Go.Proofs.YtdcfffhoajmafaaGreat
open Go.ChangeShapes Go.WideShapes Go.ChangeAt Go.RowKit Go.Deep Go.Joins Go.Proofs.Tryz
theorem ackU:prog.underlying 176 = some (.struct (prog.fieldsOf 176)):=by kernel_rfl
theorem ackT:(prog.fieldsOf 176).map (·.type)=#[3,3,3,3,3,3]:=by kernel_rfl
theorem ackO:oneCellFields prog (prog.fieldsOf 176)=true:=by kernel_rfl
theorem ackC:prog.cellsOf 176 = (prog.fieldsOf 176).size:=by kernel_rfl
theorem ackS:(prog.fieldsOf 176).size=6:=by kernel_rfl
theorem entU:prog.underlying 58 = some (.struct (prog.fieldsOf 58)):=by kernel_rfl
theorem entT:(prog.fieldsOf 58).map (·.type)=#[3,3,3,3,3,3,3,3,9,56]:=by kernel_rfl
theorem entO:oneCellFields prog (prog.fieldsOf 58)=true:=by kernel_rfl
theorem entC:prog.cellsOf 58 = (prog.fieldsOf 58).size:=by kernel_rfl
theorem entS:(prog.fieldsOf 58).size=10:=by kernel_rfl
section
variable {H:Type} {enc:TypeId×Value->H} {w:World}
theorem qkp {a b:List Value} (n:Nat) (d:a.length=n) (e:b.length=n) (h:∀ j,j < n->a[j]?=b[j]?):a=b:=by
 apply vec;intro j;rcases val j n with c | c
 .exact h j c
 rw [vbr jo,vbr jo]
theorem trod_ack {n:Nat} {cs:List Value} {x:DataW H×List MemPlace} (h:DataW.trod enc prog w 0 (fun _=>true) true n 176 cs=some x):∃ a:AK,cs=encK a/\True:=by
 obtain ⟨e,p⟩:=qjc ackU ackO ackC h;rw [ackS] at e;have b:∀ j u,(#[3,3,3,3,3,3]:Array TypeId)[j]?=some u->∃ c y m,cs[j]?=some c/\DataW.trod enc prog w 0 (fun _=>true) true m u [c]=some y:=fun j u d=>p j u (by rw [<-ackT,vcv] at d;exact d)
 obtain ⟨G,_,_,q,f⟩:=b 0 _ rfl;obtain ⟨A,rfl⟩:=qah underlying3 f;obtain ⟨I,_,_,r,g⟩:=b 1 _ rfl;obtain ⟨B,rfl⟩:=qah underlying3 g;obtain ⟨J,_,_,s,i⟩:=b 2 _ rfl;obtain ⟨C,rfl⟩:=qah underlying3 i;obtain ⟨K,_,_,t,k⟩:=b 3 _ rfl;obtain ⟨D,rfl⟩:=qah underlying3 k;obtain ⟨c4,_,_,v,l⟩:=b 4 _ rfl;obtain ⟨E,rfl⟩:=qah underlying3 l;obtain ⟨c5,_,_,z,o⟩:=b 5 _ rfl;obtain ⟨F,rfl⟩:=qah underlying3 o;refine ⟨⟨A,B,C,D,E,F⟩,qkp 6 e rfl fun j d=>?_,trivial⟩;rcases (show j=0\/j=1\/j=2\/j=3\/j=4\/j=5 by omega) with rfl | rfl | rfl | rfl | rfl | rfl
 .exact q
 .exact r
 .exact s
 .exact t
 .exact v
 exact z
theorem trod_ent {n:Nat} {cs:List Value} {x:DataW H×List MemPlace} (h:DataW.trod enc prog w 0 (fun _=>true) true n 58 cs=some x):∃ a:EN,cs=encE a/\RdE0 w a:=by
 obtain ⟨e,B⟩:=qjc entU entO entC h;rw [entS] at e;have b:∀ j u,(#[3,3,3,3,3,3,3,3,9,56]:Array TypeId)[j]?=some u->∃ c y m,cs[j]?=some c/\DataW.trod enc prog w 0 (fun _=>true) true m u [c]=some y:=fun j u d=>B j u (by rw [<-entT,vcv] at d;exact d)
 obtain ⟨Z,_,_,D,f⟩:=b 0 _ rfl;obtain ⟨O,rfl⟩:=qah underlying3 f;obtain ⟨c1,_,_,E,g⟩:=b 1 _ rfl;obtain ⟨P,rfl⟩:=qah underlying3 g;obtain ⟨c2,_,_,F,i⟩:=b 2 _ rfl;obtain ⟨R,rfl⟩:=qah underlying3 i;obtain ⟨c3,_,_,G,l⟩:=b 3 _ rfl;obtain ⟨S,rfl⟩:=qah underlying3 l;obtain ⟨c4,_,_,I,o⟩:=b 4 _ rfl;obtain ⟨T,rfl⟩:=qah underlying3 o;obtain ⟨c5,_,_,J,p⟩:=b 5 _ rfl;obtain ⟨U,rfl⟩:=qah underlying3 p;obtain ⟨c6,_,_,K,q⟩:=b 6 _ rfl;obtain ⟨V,rfl⟩:=qah underlying3 q;obtain ⟨c7,_,_,L,r⟩:=b 7 _ rfl;obtain ⟨X,rfl⟩:=qah underlying3 r;obtain ⟨c8,_,_,M,s⟩:=b 8 _ rfl;obtain ⟨Y,rfl⟩:=qgy underlying9 s;obtain ⟨c9,_,_,N,t⟩:=b 9 _ rfl;obtain ⟨A,c,z,rfl,C,_,v,_⟩:=qdp (en:=encK) (k:=6) (Q:=fun _=>True) underlying56 (by rw [ackC,ackS]) encK_len jd (fun _ _ _ h=>trod_ack h) t;refine ⟨⟨O,P,R,S,T,U,V,X,Y,A,c,z⟩,qkp 10 e rfl fun j d=>?_,⟨C,v⟩⟩;rcases (show j=0\/j=1\/j=2\/j=3\/j=4\/j=5\/j=6\/j=7\/j=8\/j=9 by omega) with rfl | rfl | rfl | rfl | rfl | rfl | rfl | rfl | rfl | rfl
 .exact D
 .exact E
 .exact F
 .exact G
 .exact I
 .exact J
 .exact K
 .exact L
 .exact M
 exact N
end
