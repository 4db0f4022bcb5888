/- Texts that the law leans on. -/
import Derived.Deep.RegionHeld3
import Derived.Deep.DrawnRows
import Derived.Test.YtdcfffhoajmafaaGreatQSortJ
set_option maxRecDepth 100000
namespace Go.Proofs.YtdcfffhoajmafaaGreat
open Go.RowKit Go.Sort Go.Lib Go.Proofs.Tryz
structure InsP (d:Array (Int×Int)) (m:Nat) (o:Array (Int×Int)):Prop where
 perm:o.toList.Perm (d.toList.take m)
 sorted:o.toList.Pairwise fun x y=>qaf y x=false
theorem InsP.nil (d:Array (Int×Int)):InsP d 0 #[]:=⟨by simp,by simp⟩
theorem InsP.size {d o:Array (Int×Int)} {m:Nat} (h:InsP d m o) (a:m<=d.size):o.size=m:=by
 have:=h.perm.length_eq
 simp at this;omega
theorem lessA_as {x y:Int×Int} (h:qaf x y=true):qaf y x=false:=by
 unfold qaf at *;simp at *;omega
theorem InsP.put {d o:Array (Int×Int)} {m k:Nat} (h:InsP d m o) (v:m < d.size) (E:k<=m) (s:∀ j,j < k->qaf d[m]! o[j]! = false) (t:k < m->qaf d[m]! o[k]! = true) :
 InsP d (m + 1) (#[] ++ (o.toList.take k).toArray ++ #[d[m]!] ++ (o.toList.drop k).toArray):=by
 have F:=h.size jo;have e:(#[] ++ (o.toList.take k).toArray ++ #[d[m]!] ++ (o.toList.drop k).toArray).toList=o.toList.take k ++ d[m]! :: o.toList.drop k:=by simp
 constructor
 .rw [e]
  refine List.perm_middle.trans ?_;rw [vep]
  have:d.toList.take (m + 1)=d.toList.take m ++ [d[m]!]:=by
   rw [vdb];simp [v]
  rw [this];exact (List.Perm.cons _ h.perm).trans (List.perm_append_singleton _ _).symm
 rw [e];have p:=h.sorted;rw [<-vep k o.toList] at p;obtain ⟨x,l,A⟩:=vcm.1 p;have B:∀ y ∈ o.toList.take k,qaf d[m]! y=false:=fun y a=>by
  obtain ⟨j,n,rfl⟩:=List.mem_take_iff_getElem.1 a;have c:j < o.size:=by simp at n;omega
  have:=s j (by simp at n;omega)
  rw [vae o j c] at this;simpa using this
 have C:∀ y ∈ o.toList.drop k,qaf y d[m]! = false:=fun y a=>by
  rcases val k m with g | u
  .have f:k < o.toList.length:=by simp;omega
   rw [vdp f] at a l;have b:=t g;rw [vae o k jo] at b;rcases vcb.1 a with rfl | a
   .exact lessA_as (by simpa using b)
   have q:=(vbu.1 l).1 y a;have D:qaf d[m]! o[k]=true:=b;have r:qaf y o.toList[k]=false:=q;simp only [Array.getElem_toList] at r;unfold qaf at *;simp at *;omega
  rw [vcl jso] at a;cases a
 refine vcm.2 ⟨x,vbu.2 ⟨C,l⟩,fun y a z i=>?_⟩;rcases vcb.1 i with rfl | i
 .exact B y a
 exact A y a z i
theorem InsP.fin {d o:Array (Int×Int)} (h:InsP d d.size o):o=srtA d:=by
 have b:=h.size (vaa _);refine srtA_of ⟨b,fun i g=>?_,?_⟩ ?_
 .have f:d.size<=i:=by omega
  simp [f,b]
 .have c:o.extract 0 d.size=o:=by rw [<-b];simp
  have e:d.extract 0 d.size=d:=by simp
  rw [c,e]
  have:=h.perm
  rwa [vaz js] at this
 intro i j _ a k
 have:=vbp.1 h.sorted i j jso jso a
 rw [vae o j jo,vae o i jo];simpa using this
section
variable {α:Type} [Inhabited α] {enc:α->List Value} {k:Nat}
theorem qai {P:Program} {w:World} {ops:Array Oper} {o:Oper} {a:Act} {K:Act->World->Prop} {Q:Exit->Act->World->Prop} {E:Prop} (h1:∀ x,∀ u ∈ enc x,u.oneCell'=true) (r:∀ x,(enc x).length=k) (hk0:0 < k) (hgd:o.guard=none) (s x:Operand) (t:TypeId)
 (ho:o.op=.call { callee:=.builtin .append,args:=#[s,x],argTypes:=#[t,t] })
 (w0:World) (e:TypeId) (i:TypeInfo) (z:Value) (bytes:Nat) (ht:P.underlying t=some (.slice e)) (hi:P.info? e=some i) (hz:i.zero=some z)
 (hsize:i.size=k) (hby:i.bytes=bytes) (hzs:z.cells.size=k)
 (v:Value) (d0:Array α) (hs:a.eval s=v) (hown:w.ownsRow w0.heap.size e k v d0.size (flatK enc k d0).toList)
 (A:Option Addr) (n c B:Nat) (d:Array α) (hx:a.eval x=.slice A n c) (hn:n=d.size) (hr:RdK enc k B w A d) (hnil:A=none->c=0)
 (h63:d0.size + d.size<=100000000) (hbb:bytes<=100000) (hB:Below w0.heap.size w0 w)
 (h:∀ y l,l.ownsRow w0.heap.size e k y (d0 ++ d).size (flatK enc k (d0 ++ d)).toList->w.grownBy l v.ownBlock->Below w0.heap.size w0 l->K (a.put o.dst y) l) :
 if Region.wanted o (yielded ops a.tmps)=true then Oper.wp P o a w K Q else E:=by
 subst hn;have M:Region.wanted o (yielded ops a.tmps)=true:=by simp [Region.wanted,hgd]
 rw [vam M];cases A with
 | none =>
   have m:d.size=0:=by
    rcases vba d.size with m | m
    .exact m
    obtain ⟨b,H,e,_⟩:=hr m;cases e
   obtain rfl:d=#[]:=var m;rw [hnil rfl] at hx;have G:a.eval x=.slice none 0 0:=hx;have p:=run_append_owned_none (P:=P) (w:=w) w0.heap.size t o.type e i k ht hi v d0.size _ hown;unfold Oper.wp execOp;simp only [ho,resolve,invoke,builtin,Sem.run_bind,Sem.run_pure,Result.andThen_ok,List.map_toArray,List.map_cons,List.map_nil,hs,G,p];exact h v w (by simpa using hown) (World.grownBy.refl w _) hB
 | some ad =>
   obtain ⟨y,l,F,J,I,_,_⟩:=run_append_own_at (P:=P) w w0.heap.size t o.type e i z k bytes ht hi hz hsize hby hzs hk0 v d0.size _ hown ad d.size c (flatK enc k d).toList js (fun j u q=>by
    have f:j < d.size * k:=by
     rcases val j (d.size * k) with g | g
     .exact g
     rw [vbr (by simpa using g)] at q;cases q
    have D:0 < d.size:=by
     rcases vba d.size with g | g
     .rw [g,Nat.zero_mul] at f;omega
     exact g
    obtain ⟨b,H,C,_,L⟩:=hr D;injection C with C
    subst C;rw [Addr.add_lit,L j f];rw [qgp _ _ _ _ f] at q;rw [get_flatK _ _ _ _ f]
    exact q) (qwv h1 r) jl (by
    have:(d0.size + d.size) * bytes<=100000000 * 100000:=vew h63 hbb
    omega) hB.size
   unfold Oper.wp execOp;simp only [ho,resolve,invoke,builtin,Sem.run_bind,Sem.run_pure,Result.andThen_ok,List.map_toArray,List.map_cons,List.map_nil,hs,hx,F];exact h y l (by rw [qlf r,vdd];exact J) I (hB.grown I hB.size (fun k r=>(hown.lt k r).1))
end
