/- Texts that the law leans on. -/
import Derived.Deep.DrawnRows
import Derived.Test.YtdcfffhoajmafaaGreatQRangesL
import Derived.Test.YtdcfffhoajmafaaGreatQStableK
set_option maxRecDepth 100000
set_option maxHeartbeats 8000000
namespace Go.Proofs.YtdcfffhoajmafaaGreat
open Go.RowKit Go.Sort Go.Lib Go.Proofs.Tryz
section
attribute [local go_sem ↓] Go.wp_at_zero Go.wp_at_succ
theorem qbt {P:Program} {w:World} {ops:Array Oper} {o:Oper} {a:Act} {K:Act->World->Prop} {Q:Exit->Act->World->Prop} {E:Prop} (hgd:o.guard=none) (s x:Operand) (t:TypeId)
 (ho:o.op=.call { callee:=.builtin .append,args:=#[s,x],argTypes:=#[t,t] })
 (w0:World) (e:TypeId) (i:TypeInfo) (z:Value) (size bytes:Nat) (ht:P.underlying t=some (.slice e)) (hi:P.info? e=some i) (hz:i.zero=some z)
 (hsize:i.size=size) (hby:i.bytes=bytes) (hzs:z.cells.size=size) (hsz:0 < size)
 (v:Value) (n:Nat) (xs:List Value) (hs:a.eval s=v) (hown:w.ownsRow w0.heap.size e size v n xs)
 (ad:Addr) (m c:Nat) (news:List Value) (hx:a.eval x=.slice (some ad) m c) (hl:news.length=m * size) (hnews:∀ j u,news[j]?=some u->w.cell? (ad.add j)=some u) (h1:∀ u ∈ news,u.oneCell'=true)
 (h63:n + m<=maxLen) (hbytes:(n + m) * bytes<=140737488355328) (hB:Below w0.heap.size w0 w)
 (h:∀ d b,b.ownsRow w0.heap.size e size d (n + m) (xs ++ news)->w.grownBy b v.ownBlock->Below w0.heap.size w0 b->K (a.put o.dst d) b) :
 if Region.wanted o (yielded ops a.tmps)=true then Oper.wp P o a w K Q else E:=by
 have q:Region.wanted o (yielded ops a.tmps)=true:=by simp [Region.wanted,hgd]
 rw [vam q];obtain ⟨d,b,p,g,f,_,_⟩:=run_append_own_at (P:=P) w w0.heap.size t o.type e i z size bytes ht hi hz hsize hby hzs hsz v n xs hown ad m c news hl hnews h1 h63 hbytes hB.size;unfold Oper.wp execOp;simp only [ho,resolve,invoke,builtin,Sem.run_bind,Sem.run_pure,Result.andThen_ok,List.map_toArray,List.map_cons,List.map_nil,hs,hx,p];exact h d b g f (hB.grown f hB.size (fun k l=>(hown.lt k l).1))
theorem emptyA (w:World) (e:TypeId):(w.alloc (.cells #[] e)).drew.ownsRow w.heap.size e 1 (.slice (some ⟨w.heap.size,0,none⟩) 0 0) 0 []:=(qla w e).drew
theorem emptyB (w:World) (e:TypeId) (o:Obj):((w.alloc (.cells #[] e)).alloc o).drew.ownsRow w.heap.size e 1 (.slice (some ⟨w.heap.size,0,none⟩) 0 0) 0 []:=((qla w e).alloc o).drew
theorem emptyC (w:World) (e:TypeId) (o:Obj) (H:(w.alloc o).heap.size=w.heap.size + 1):((w.alloc o).alloc (.cells #[] e)).drew.ownsRow w.heap.size e 1 (.slice (some ⟨w.heap.size + 1,0,none⟩) 0 0) 0 []:=by
 have:=qbx (qla (w.alloc o) e).drew (base':=w.heap.size) js
 rw [H] at this;exact this
theorem qkt {d:Array Int} {k:Nat} (a:k<=d.size):((d.toList.take k).map (Value.int .i64)).length=k * 1:=by simp;omega
theorem qhi (l:List Int):∀ u ∈ l.map (Value.int .i64),u.oneCell'=true:=by
 intro u a;obtain ⟨y,_,rfl⟩:=vcp.1 a;rfl
theorem newsA {d:Array Int} {b off k:Nat} {w W:World} (h:∀ i,i < d.size->w.cell? ⟨b,off + i,none⟩=some (.int .i64 d[i]!)) (e:Below w.heap.size w W) (f:b < w.heap.size) (m:k<=d.size) :
 ∀ j u,((d.toList.take k).map (Value.int .i64))[j]?=some u->W.cell? ((⟨b,off,none⟩:Addr).add j)=some u:=by
 intro j u a;rw [vdc,List.getElem?_take] at a;split at a
 .rename_i g
  have c:j < d.size:=by omega
  rw [vbh,vbe c] at a;have l:Value.int .i64 d[j]=u:=by simpa using a
  rw [Addr.add_lit,e.cell (p:=⟨b,off + j,none⟩) f,h j c,vae d j c,l]
 simp at a
theorem newsB {d:Array Int} {b off k:Nat} {w W:World} (h:∀ i,i < d.size->w.cell? ⟨b,off + i,none⟩=some (.int .i64 d[i]!)) (e:Below w.heap.size w W) (f:b < w.heap.size) :
 ∀ j u,((d.toList.drop k).map (Value.int .i64))[j]?=some u->W.cell? ((⟨b,off + k,none⟩:Addr).add j)=some u:=by
 intro j u c;rw [vdc,List.getElem?_drop] at c;rcases val (k + j) d.size with a | a
 .rw [vbh,vbe a] at c
  have g:Value.int .i64 d[k + j]=u:=by simpa using c
  rw [Addr.add_lit,vdl,e.cell (p:=⟨b,off + (k + j),none⟩) f,h _ a,vae d _ a,g]
 rw [vbh,vbn a] at c;simp at c
theorem oneA (a:World) (n:Int) (e:TypeId):∀ j u,[Value.int .i64 n][j]?=some u->(a.alloc (.cells #[.int .i64 n] e)).drew.cell? ((⟨a.heap.size,0,none⟩:Addr).add j)=some u:=qdr a _ e
theorem add0_R {H j:Nat} {n:Int} {u:Value} {W:World} (h:[Value.int .i64 n][j]?=some u) (b:W.cell? ⟨H,0,none⟩=some (.int .i64 n)):W.cell? ((⟨H,0,none⟩:Addr).add j)=some u:=by
 have c:j=0:=by
  rcases vba j with a | a
  .exact a
  obtain ⟨i,rfl⟩:∃ i,j=i + 1:=⟨j - 1,by omega⟩
  simp at h
 subst c
 have:Value.int .i64 n=u:=by simpa using h
 rw [<-this];exact b
theorem oneB {w W':World} {n:Int} {e:TypeId} {o:Obj} (b:((w.alloc o).alloc (.cells #[.int .i64 n] e)).drew.grownBy W' (Value.slice (some ⟨w.heap.size,0,none⟩) 0 0).ownBlock):∀ j u,[Value.int .i64 n][j]?=some u->W'.cell? ((⟨w.heap.size + 1,0,none⟩:Addr).add j)=some u:=fun j u h=>add0_R h (by
 have a:w.heap.size + 1=(w.alloc o).heap.size:=by simp
 rw [b.cell_far ⟨w.heap.size + 1,0,none⟩ js (by simp [Value.ownBlock]),a]
 exact qau (w.alloc o) _ _ 0)
theorem oneC {w W':World} {n:Int} {e:TypeId} {o:Obj} (a:((w.alloc (.cells #[.int .i64 n] e)).alloc o).drew.grownBy W' (Value.slice (some ⟨w.heap.size + 1,0,none⟩) 0 0).ownBlock):∀ j u,[Value.int .i64 n][j]?=some u->W'.cell? ((⟨w.heap.size,0,none⟩:Addr).add j)=some u:=fun j u h=>add0_R h (by
 rw [a.cell_far ⟨w.heap.size,0,none⟩ jso (by simp [Value.ownBlock])]
 exact (vbq (w.alloc (.cells #[.int .i64 n] e)) o ⟨w.heap.size,0,none⟩ js).trans (qau w _ _ 0))
theorem own_fin {w:World} {d:Nat} {e:TypeId} {v:Value} {l:List Int} (h:w.ownsRow d e 1 v l.length (l.map (Value.int .i64))) (p:0 < l.length):∃ g a,v=.slice (some ⟨g,0,none⟩) l.length a/\l.length<=a/\g < w.heap.size/\∀ i,i < l.length->w.cell? ⟨g,0 + i,none⟩=some (.int .i64 l.toArray[i]!):=by
 obtain ⟨A,c,m,s⟩:=qjf h;obtain ⟨_,⟨rfl,u⟩ | ⟨g,a,n,f,x,y,k,_⟩⟩:=h
 .omega
 rw [f] at m;injection m with e1 _ e3
 obtain ⟨b,t,o,j,q⟩:=s (by simpa using p);rw [o] at e1;injection e1 with e1
 injection e1 with e5 e6
 subst e5 e6;exact ⟨g,a,f,k,j,fun i r=>q i (by simpa using r)⟩
theorem qqj {d:Array Int} {n:Int} {k:Nat} (l:k<=d.size) (f:∀ j,j < k->d[j]! < n) (g:k < d.size->n<=d[k]!):putL n d.toList=if k < d.size/\d[k]! = n then d.toList else d.toList.take k ++ n :: d.toList.drop k:=by
 have b:∀ j (h:j < d.toList.length),j < k->d.toList[j] < n:=fun j h i=>by
  have:=f j i
  rw [vae d j (by simpa using h)] at this;simpa using this
 have c:∀ h:k < d.toList.length,n<=d.toList[k]:=fun h=>by
  have a:k < d.size:=by simpa using h
  have:=g a
  rw [vae d k a] at this;simpa using this
 have:=qqh n d.toList k (by simpa using l) b c
 rw [this];have e:d.toList[k]! = d[k]!:=by
  rcases val k d.size with h | h
  .simp [h]
  simp [h]
 simp [e]
theorem qux {w b:World} {e:TypeId} {v:Value} {d:Array Int} {n:Int} {k:Nat} (l:putL n d.toList=d.toList.take k ++ n :: d.toList.drop k) (t:k<=d.size) (c:b.ownsRow w.heap.size e 1 v (0 + k + 1 + (d.size - k)) ([] ++ (d.toList.take k).map (Value.int .i64) ++ [.int .i64 n] ++ (d.toList.drop k).map (Value.int .i64))) (r:Below w.heap.size w b) :
 ∃ f a j,Ending.returned v=.returned (.slice (some ⟨f,a,none⟩) (putL n d.toList).length j)/\(putL n d.toList).length<=j/\f < b.heap.size/\(∀ i,i < (putL n d.toList).length->b.cell? ⟨f,a + i,none⟩=some (.int .i64 (putL n d.toList).toArray[i]!))/\Below w.heap.size w b:=by
 have s:(putL n d.toList).length=0 + k + 1 + (d.size - k):=by rw [l];simp;omega
 have m:b.ownsRow w.heap.size e 1 v (putL n d.toList).length ((putL n d.toList).map (Value.int .i64)):=by
  rw [s,l];simpa using c
 obtain ⟨g,h,rfl,o,p,q⟩:=own_fin m jo;exact ⟨g,0,h,rfl,o,p,q,r⟩
theorem qxg {d:Array Int}:d.toList.drop d.size=[]:=vcl js
theorem drop_len {d:Array Int} {k:Nat}:((d.toList.drop k).map (Value.int .i64)).length=(d.size - k) * 1:=by simp
theorem put_any_R (b off c:Nat) (d:Array Int) (n:Int) (w:World) (h0:0 < d.size) (hc:d.size<=c) (hd:d.size<=1000000) (L:b < w.heap.size) (h:∀ i,i < d.size->w.cell? ⟨b,off + i,none⟩=some (.int .i64 d[i]!)) :
 Calls prog 293 #[.slice (some ⟨b,off,none⟩) d.size c,.int .i64 n] w fun e F=>∃ U I X,e=.returned (.slice (some ⟨U,I,none⟩) (putL n d.toList).length X)/\(putL n d.toList).length<=X/\U < F.heap.size/\(∀ i,i < (putL n d.toList).length->F.cell? ⟨U,I + i,none⟩=some (.int .i64 (putL n d.toList).toArray[i]!))/\Below w.heap.size w F:=by
 have J:=hI h;clear h;obtain ⟨E,m,o,p,q⟩:=vbo qcc;go_in;go_wp2
 go_loop [5] (fun t=>∃ k:Nat,k<=d.size/\t=.int .i64 k/\∀ j,j < k->d[j]! < n) (fun t=>d.size - (intOf t).toNat)
 case atStart=>exact ⟨0,vaj _,rfl,fun j O=>absurd O jo⟩
 case round =>
  obtain ⟨k,z,rfl,O⟩:=hrel;have R:=hI O;clear O;by_cases s:k < d.size
  .have ck:=J.out k s
   have V:Hid (d[k]! = d[k]!):=rfl;generalize Z:d[k]! = x at ck V;have A:=hI Z;clear Z V;have kz:(k:Int) < (d.size:Int):=by omega
   have kc:(k:Int)<=(c:Int):=by omega
   have kd:(k:Int)<=(d.size:Int):=by omega
   have k0:(0:Int)<=(k:Int):=by omega
   by_cases B:x < n
   .go_wp2
    go_round
    case rel=>exact ⟨k + 1,by omega,by go_num,fun j O=>by
     rcases val j k with h | h
     .exact R.out j h
     obtain rfl:j=k:=by omega
     rw [A.out];exact B⟩
    case measure=>simp [intOf];omega
   have a0:decide (x < n)=false:=by simp;omega
   by_cases y:x=n
   .have hq:(x == n)=true:=by simp [y]
    have D:=hI y;have K:=hI B;clear y B;have C:Hid (putL n d.toList=d.toList):=by
     show _=_;rw [qqj z R.out (fun _=>by rw [A.out,D.out];omega),vam ⟨s,by rw [A.out,D.out]⟩]
    have T:=hI s;go_wp2;go_ret;refine ⟨b,off,c,?_,?_,L,?_,vag _ _⟩
    .rw [C.out];simp
    .rw [C.out];simpa using hc
    intro i Y;rw [C.out] at Y;have N:i < d.size:=by simpa using Y
    rw [J.out i N,C.out];simp [N]
   have hq:(x == n)=false:=by simp [y]
   have D:=hI y;have K:=hI B;clear y B;go_wp2_with fail;have S:Below w.heap.size w w:=vag _ _;have C:Hid (putL n d.toList=d.toList.take k ++ n :: d.toList.drop k):=by
    show _=_;rw [qqj z R.out (fun _=>by rw [A.out];have:=K.out;omega),vao (fun h=>D.out (by rw [<-A.out];exact h.2))]
   have M:¬ c=k:=by omega
   go_region_held3 (fun F=>Below w.heap.size w F) (first | assumption | exact vaq jN | exact qab jN _ | exact (qab jN _).drew | exact qab (vaq jN) _)
    (first
      | (refine qbt jr _ _ _ jr w 3 E _ 1 8 underlying26 m o p q rfl jd _ 0 [] jr (by first | exact emptyA _ _ | exact emptyB _ _ _ | exact emptyC _ _ _ js) ⟨b,off,none⟩ k c ((d.toList.take k).map (Value.int .i64)) jr (qkt z) (newsA J.out jN L z) (qhi _) jl jo jN ?_;intro P w1 f a G)
      | ((refine qbt jr _ _ _ jr w 3 E _ 1 8 underlying26 m o p q rfl jd P (0 + k) ([] ++ (d.toList.take k).map (Value.int .i64)) jr (by first | exact f | exact (f.alloc _).drew) _ 1 1 [.int .i64 n] jr jr (by first | exact oneA _ _ _ | exact oneB a | exact oneC a) (qhi [n]) jl jo jN ?_;intro Q w2 g u H))
      | ((refine qbt jr _ _ _ jr w 3 E _ 1 8 underlying26 m o p q rfl jd Q (0 + k + 1) ([] ++ (d.toList.take k).map (Value.int .i64) ++ [.int .i64 n]) jr (by first | exact g | exact g.drew) ⟨b,off + k,none⟩ (d.size - k) (c - k) ((d.toList.drop k).map (Value.int .i64)) jr drop_len (newsB J.out jN L) (qhi _) jl jo jN ?_;intro v3 w3 l v r)))
   all_goals
    go_wp2;go_ret;exact qux C.out z l r
  obtain rfl:k=d.size:=by omega
  have C:Hid (putL n d.toList=d.toList.take d.size ++ n :: d.toList.drop d.size):=by
   show _=_;rw [qqj z R.out (fun h=>absurd h s),vao (fun h=>s h.1)]
  have T:=hI s;clear s;have kc:(d.size:Int)<=(c:Int):=by omega
  have k0:(0:Int)<=(d.size:Int):=by omega
  have S:Below w.heap.size w w:=vag _ _;by_cases M:c=d.size
  .obtain rfl:c=d.size:=M
   go_wp2_with fail;go_region_held3 (fun F=>Below w.heap.size w F) (first | assumption | exact vaq jN | exact qab jN _ | exact (qab jN _).drew | exact qab (vaq jN) _)
    (first
      | (refine qbt jr _ _ _ jr w 3 E _ 1 8 underlying26 m o p q rfl jd _ 0 [] jr (by first | exact emptyA _ _ | exact emptyB _ _ _ | exact emptyC _ _ _ js) ⟨b,off,none⟩ d.size d.size ((d.toList.take d.size).map (Value.int .i64)) jr (qkt z) (newsA J.out jN L z) (qhi _) jl jo jN ?_;intro P w1 f a G)
      | ((refine qbt jr _ _ _ jr w 3 E _ 1 8 underlying26 m o p q rfl jd P (0 + d.size) ([] ++ (d.toList.take d.size).map (Value.int .i64)) jr (by first | exact f | exact (f.alloc _).drew) _ 1 1 [.int .i64 n] jr jr (by first | exact oneA _ _ _ | exact oneB a | exact oneC a) (qhi [n]) jl jo jN ?_;intro Q w2 g u H))
      | ((refine qbt jr _ _ _ jr w 3 E _ 1 8 underlying26 m o p q rfl jd Q (0 + d.size + 1) ([] ++ (d.toList.take d.size).map (Value.int .i64) ++ [.int .i64 n]) jr (by first | exact g | exact g.drew) _ 0 _ [] jr rfl (fun _ _ h=>by simp at h) (fun _ h=>by simp at h) jl jo jN ?_;intro v3 w3 l v r)))
   all_goals
    go_wp2;go_ret;exact qux (e:=3) C.out z (by rw [qxg];simpa using l) r
  go_wp2_with fail;go_region_held3 (fun F=>Below w.heap.size w F) (first | assumption | exact vaq jN | exact qab jN _ | exact (qab jN _).drew | exact qab (vaq jN) _)
   (first
     | (refine qbt jr _ _ _ jr w 3 E _ 1 8 underlying26 m o p q rfl jd _ 0 [] jr (by first | exact emptyA _ _ | exact emptyB _ _ _ | exact emptyC _ _ _ js) ⟨b,off,none⟩ d.size c ((d.toList.take d.size).map (Value.int .i64)) jr (qkt z) (newsA J.out jN L z) (qhi _) jl jo jN ?_;intro P w1 f a G)
     | ((refine qbt jr _ _ _ jr w 3 E _ 1 8 underlying26 m o p q rfl jd P (0 + d.size) ([] ++ (d.toList.take d.size).map (Value.int .i64)) jr (by first | exact f | exact (f.alloc _).drew) _ 1 1 [.int .i64 n] jr jr (by first | exact oneA _ _ _ | exact oneB a | exact oneC a) (qhi [n]) jl jo jN ?_;intro Q w2 g u H))
     | ((refine qbt jr _ _ _ jr w 3 E _ 1 8 underlying26 m o p q rfl jd Q (0 + d.size + 1) ([] ++ (d.toList.take d.size).map (Value.int .i64) ++ [.int .i64 n]) jr (by first | exact g | exact g.drew) _ 0 _ [] jr rfl (fun _ _ h=>by simp at h) (fun _ h=>by simp at h) jl jo jN ?_;intro v3 w3 l v r)))
  all_goals
   go_wp2;go_ret;exact qux (e:=3) C.out z (by rw [qxg];simpa using l) r
end
def RowI (w:World) (v:Value) (l:List Int):Prop:=∃ b off c,v=.slice (some ⟨b,off,none⟩) l.length c/\l.length<=c/\b < w.heap.size/\∀ i,i < l.length->w.cell? ⟨b,off + i,none⟩=some (.int .i64 l.toArray[i]!)
theorem putL_pos (n:Int):∀ l:List Int,0 < (putL n l).length
 | []=>by simp [putL]
 | x :: l=>by unfold putL;split <;> (try split) <;> simp
theorem put_row {w:World} {v:Value} {l:List Int} {n:Int} (h:RowI w v l) (k:0 < l.length) (m:l.length<=1000000) :
 Calls prog 293 #[v,.int .i64 n] w fun e f=>∃ g,e=.returned g/\RowI f g (putL n l)/\Below w.heap.size w f/\0 < (putL n l).length/\(putL n l).length<=l.length + 1:=by
 obtain ⟨b,d,c,rfl,o,p,q⟩:=h
 have:=put_any_R b d c l.toArray n w (by simpa using k) (by simpa using o) (by simpa using m) p (by simpa using q)
 refine this.mono ?_;rintro e f ⟨i,a,j,rfl,r,s,t,u⟩;exact ⟨_,rfl,⟨i,a,j,rfl,r,s,t⟩,u,putL_pos n l,qka n l⟩
theorem edges_any (A:Option Addr) (c:Nat) (d:Array (Int×Int)) (w:World) (h:RdK encR 2 w.heap.size w A d) (M:d.size<=400000) :
 Calls prog 266 #[.slice A d.size c] w fun e D=>∃ v,e=.returned v/\RowI D v (qbz d d.size)/\Below w.heap.size w D:=by
 go_in;go_wp2
 go_loopw [3,4] (fun v i wr=>∃ k:Nat,k<=d.size/\i=.int .i64 k/\RowI wr v (qbz d k)/\0 < (qbz d k).length/\Below w.heap.size w wr) (fun _ i _=>d.size - (intOf i).toNat)
 case atStart=>exact ⟨0,vaj _,rfl,⟨w.heap.size,0,1,rfl,vaa _,by simp,fun i H=>by
  obtain rfl:i=0:=by simp [qbz] at H;omega
  exact qau w _ _ 0⟩,by simp [qbz],bel1 _ _⟩
 case round =>
  obtain ⟨k,N,rfl,j,q,m⟩:=hrel;have y:=qks d k;by_cases z:k < d.size
  .obtain ⟨b,s,rfl,F,f⟩:=(h.below m).at_ z
   have C:=f 0 jo;have t:=f 1 jo;have o:=hI (qhg d k);generalize d[k]! = x at C t o;simp only [vak,encR,vac,vaf] at C t;clear f;generalize qbz d k=E at j o q y;have G:=m.size;have O:(k:Int) < (d.size:Int):=by omega
   go_wp2_with (go_at_call 293;first
    | ((with_reducible refine (put_row j jo jo).mono ?_);rintro e K ⟨P,rfl,g,l,r,I⟩;have L:K.cell? ⟨b,s + k * 2 + 1,none⟩=some (.int .i64 x.2):=(l.cell (p:=⟨b,s + k * 2 + 1,none⟩) (by show b < _;omega)).trans t)
    | ((with_reducible refine (put_row g jo jo).mono ?_);rintro e R ⟨Q,rfl,n,u,B,J⟩))
   all_goals first
    | (have a:qbz d (k + 1)=putL (x.2 + 1) (putL x.1 E):=by rw [o.out,vam (show 1<=x.2/\x.2 < 1000000 by omega),vam (show 1 < x.1/\x.1<=1000000 by omega)]
       exact ⟨⟨k + 1,by omega,by go_num,by rw [a];exact n,by rw [a];exact B,qaa (qaa m l) u⟩,by simp [intOf];omega⟩)
    | (have a:qbz d (k + 1)=putL x.1 E:=by rw [o.out,vao (show ¬ (1<=x.2/\x.2 < 1000000) by omega),vam (show 1 < x.1/\x.1<=1000000 by omega)]
       exact ⟨⟨k + 1,by omega,by go_num,by rw [a];exact g,by rw [a];exact r,qaa m l⟩,by simp [intOf];omega⟩)
    | (have a:qbz d (k + 1)=putL (x.2 + 1) E:=by rw [o.out,vam (show 1<=x.2/\x.2 < 1000000 by omega),vao (show ¬ (1 < x.1/\x.1<=1000000) by omega)]
       exact ⟨⟨k + 1,by omega,by go_num,by rw [a];exact g,by rw [a];exact r,qaa m l⟩,by simp [intOf];omega⟩)
    | (have a:qbz d (k + 1)=E:=by rw [o.out,vao (show ¬ (1<=x.2/\x.2 < 1000000) by omega),vao (show ¬ (1 < x.1/\x.1<=1000000) by omega)]
       exact ⟨⟨k + 1,by omega,by go_num,by rw [a];exact j,by rw [a];exact q,m⟩,by simp [intOf];omega⟩)
  obtain rfl:k=d.size:=by omega
  go_wp2;go_ret;exact ⟨_,rfl,j,m⟩
theorem qxh (a b:Array (Int×Int)) (e:Array Int):∀ i,(ofN a b e i).size<=i
 | 0=>vaa _
 | i + 1=>by
   have:=qxh a b e i
   rw [qqi];split
   .omega
   split
   .simp;omega
   simp;omega
theorem rowE {w:World} {v:Value} {l:Array (Int×Int)} (h:RowI w v (qbz l l.size)):∃ b a c,v=.slice (some ⟨b,a,none⟩) (qaz l).size c/\b < w.heap.size/\∀ i,i < (qaz l).size->w.cell? ⟨b,a + i,none⟩=some (.int .i64 (qaz l)[i]!):=by
 obtain ⟨b,a,c,rfl,_,d,e⟩:=h;exact ⟨b,a,c,by rw [qgt],d,fun i f=>e i (by rw [<-qgt];exact f)⟩
theorem NL.at_ {d:Array (Int×Int)} (h:NL d.toList) {k:Nat} (a:k < d.size):1<=d[k]!.1/\d[k]!.1<=d[k]!.2/\d[k]!.2<=1000000:=h.1 _ (by rw [vae d k a];simp)
theorem edgesE_bd (l:Array (Int×Int)) (i:Nat) (h:i < (qaz l).size):1<=(qaz l)[i]!/\(qaz l)[i]!<=1000000:=by
 have:=qje l i
 have e:bndN (qaz l) i=(qaz l)[i]!:=by unfold bndN;rw [vam h]
 rw [e] at this;exact ⟨this.1,this.2.2 h⟩
theorem bnd_in {e:Array Int} {i:Nat} (h:i < e.size):bndN e i - 1=e[i]! - 1:=by unfold bndN;rw [vam h]
theorem bnd_out {e:Array Int} {i:Nat} (h:¬ i < e.size):bndN e i - 1=1000000:=by unfold bndN;rw [vao h];rfl
theorem qes {w wr b:World} {B:Nat} {o:Obj} {e:TypeId} {s n:Nat} {v:Value} {h:List Value} (d:Below B w wr) (c:B<=wr.heap.size) (a:wr.ownsRow B e s v n h) (f:(wr.alloc o).grownBy b v.ownBlock):Below B w b :=
 (d.alloc c o).grown f jso (fun k g=>(a.lt k g).1)
theorem of_any_R (x:Option Addr) (c1:Nat) (d:Array (Int×Int)) (G:Option Addr) (c2:Nat) (d2:Array (Int×Int)) (w:World) (h1:RdK encR 2 w.heap.size w x d) (h2:RdK encR 2 w.heap.size w G d2) (n1:x=none->c1=0) (n2:G=none->c2=0) (hd:d.size + d2.size<=100000) :
 Calls prog 231 #[.slice x d.size c1,.slice G d2.size c2] w fun e o=>∃ v,e=.returned v/\o.ownsRow w.heap.size 124 2 v (ofE d d2).size (flatK encR 2 (ofE d d2)).toList/\Below w.heap.size w o:=by
 obtain ⟨i0,z,C,D,F⟩:=vbo qda;have T:=hI (qba w 124 encR 2);have b6:=hI n1;have b7:=hI n2;clear n1 n2;go_in
 go_wp2_with (first
  | (at_builtin;refine qcq qik qbj jd rfl _ _ 64 rfl w.heap.size 124 i0 (.agg #[.int .i64 0,.int .i64 0]) 16 underlying64 z C D F rfl _ #[] rfl T.out w.heap.size x c1 d rfl (h1.alloc (vaa _) _) b6.out jso jd js ?_;intro v1 w1 t b2 _;have I:Below w.heap.size w w1:=(bel1 w _).grown b2 js (fun k hk=>(T.out.lt k hk).1))
  | (at_builtin;refine qcq qik qbj jd rfl _ _ 64 rfl w.heap.size 124 i0 (.agg #[.int .i64 0,.int .i64 0]) 16 underlying64 z C D F rfl v1 (#[] ++ d) rfl t w.heap.size G c2 d2 rfl (h2.below I) b7.out jso jd I.size ?_;intro v2 S K b3 _;have a6:Below w.heap.size w S:=I.grown b3 I.size (fun k hk=>(t.lt k hk).1);obtain ⟨A3,c3,rfl,a0,_⟩:=qaq K))
 have e12:#[] ++ d ++ d2=d ++ d2:=by simp
 rw [e12] at a0;have HH:=edges_any A3 c3 (d ++ d2) S a0 jso;rw [show Value.slice A3 (d ++ d2).size c3=Value.slice A3 (d.size + d2.size) c3 by rw [vdd]] at HH;refine HH.mono ?_;clear HH e12;rintro e H ⟨ve,rfl,Q,a8⟩;obtain ⟨be,oe,ce,rfl,a9,X⟩:=rowE Q;have a7:Below w.heap.size w H:=qaa a6 a8;have q:=hI a7;have HO:=hI (fun i hi=>(ofN_ok d d2 i hi).1);have L:=hI (edgesE_bd (d ++ d2));have HR:Hid (ofE d d2=ofN d d2 (qaz (d ++ d2)) (qaz (d ++ d2)).size):=rfl;have b5:=quw (d ++ d2);rw [vdd] at b5;clear Q t K b2 b3 a8 I a6 a0 T;generalize qaz (d ++ d2)=f at X HO L HR b5 |-
 have a5:=hI X;clear X a7;go_wp2
 go_loopw [6,7] (fun v i wr=>∃ k:Nat,k<=f.size/\i=.int .i64 k/\wr.ownsRow H.heap.size 124 2 v (ofN d d2 f k).size (flatK encR 2 (ofN d d2 f k)).toList/\Below H.heap.size H wr) (fun _ i _=>f.size - (intOf i).toNat)
 case atStart=>exact ⟨0,vaj _,rfl,qbk _ _ _ _ _,vag _ _⟩
 case round =>
  obtain ⟨k,hk,rfl,b,u⟩:=hrel;have P:=u.size;by_cases b4:k < f.size
  .have ck:wr.cell? ⟨be,oe + k,none⟩=some (.int .i64 f[k]!):=(u.cell (p:=⟨be,oe + k,none⟩) a9).trans (a5.out k b4)
   have hE:=L.out k b4;have b8:=hE.1;have b9:=hE.2;clear hE;have HS:=hI (qqi d d2 f k);have c9:=qxh d d2 f k;have U:=hI (HO.out k hk);have R:RdK encR 2 w.heap.size wr x d:=h1.below (q.out.trans (u.mono q.out.size));have r2:RdK encR 2 w.heap.size wr G d2:=h2.below (q.out.trans (u.mono q.out.size));have kz:(k:Int) < (f.size:Int):=by omega
   generalize f[k]! = E at ck b8 b9 HS;cases b0:inR d E
   .have r:Hid (ofN d d2 f (k + 1)=ofN d d2 f k):=by show _=_;rw [HS.out,vam (Or.inl b0)]
    go_wp2_with (go_at_call 229;(with_reducible refine (qeb x c1 d E w.heap.size wr R jo).mono ?_);rintro e o ⟨rfl,rfl⟩);exact ⟨⟨k + 1,by omega,by go_num,by rw [r.out];exact b,u⟩,by simp [intOf];omega⟩
   cases b1:inR d2 E
   .have m:Hid (ofN d d2 f (k + 1)=if 0 < (ofN d d2 f k).size/\(ofN d d2 f k)[(ofN d d2 f k).size - 1]!.2 + 1=E then (ofN d d2 f k).set! ((ofN d d2 f k).size - 1) ((ofN d d2 f k)[(ofN d d2 f k).size - 1]!.1,bndN f (k + 1) - 1) else (ofN d d2 f k).push (E,bndN f (k + 1) - 1)):=by
     show _=_;rw [HS.out,vao (by rw [b0,b1];simp)]
    clear HS;generalize ofN d d2 f k=a at b m c9 U;by_cases J:k + 1 < f.size
    .have cn:wr.cell? ⟨be,oe + (k + 1),none⟩=some (.int .i64 f[k + 1]!):=(u.cell (p:=⟨be,oe + (k + 1),none⟩) a9).trans (a5.out (k + 1) J)
     have c0:=(L.out (k + 1) J).1;have c4:=(L.out (k + 1) J).2;have M:=hI (bnd_in J);generalize f[k + 1]! = N at cn c0 c4 M;have d4:(k:Int) + 1 < (f.size:Int):=by omega
     rw [M.out] at m;rcases vba a.size with O | O
     .obtain rfl:a=#[]:=var O
      have r:Hid (ofN d d2 f (k + 1)=#[(E,(N - 1))]):=m.out.trans (vao js);obtain ⟨A,c,rfl,_,_⟩:=qaq b;clear m O
      go_wp2_with (go_at_call 229;first
       | ((with_reducible refine (qeb x c1 d E w.heap.size wr R jo).mono ?_);rintro e o ⟨rfl,rfl⟩)
       | ((with_reducible refine (qeb G c2 d2 E w.heap.size wr r2 jo).mono ?_);rintro e o ⟨rfl,rfl⟩))
      go_quiet (fail);have g:(wr.drewN nq).ownsRow H.heap.size 124 2 (.slice A 0 c) 0 []:=by have:=b;rw [qdl] at this;exact this
      go_wp2_with (at_builtin;refine vay _ rfl _ _ 64 rfl H.heap.size 124 i0 (.agg #[.int .i64 0,.int .i64 0]) 2 16 underlying64 z C D F rfl jd _ _ _ rfl (g.alloc _) ⟨wr.heap.size,0,none⟩ 1 1 [.int .i64 E,.int .i64 (N - 1)] rfl rfl (qcb (wr.drewN nq) _ _ _) jV jl jo jso ?_;intro v' S l j _);exact ⟨⟨k + 1,by omega,by go_num,(by rw [r.out];show S.ownsRow _ _ _ _ ((#[]:Array (Int×Int)).push (E,(N - 1))).size (flatK encR 2 (#[].push (E,(N - 1)))).toList;rw [vbk,qax qbj,qdl];exact l),qes (qaj u nq) P g j⟩,by simp [intOf];omega⟩
     obtain ⟨g0,V,rfl,Y,c6,hH⟩:=qbl b (by
      rintro rfl;obtain ⟨_,⟨_,h'⟩ | ⟨_,_,_,e,_⟩⟩:=b
      .omega
      cases e)
     have n:=U.out.at_ (k:=a.size - 1) jo;have s:=(hH ((a.size - 1) * 2 + 1) (by rw [size_flatK];omega)).1;rw [vcc,qfw _ _ _ _ _ jo jd] at s;have HP:Hid (¬ (a[a.size - 1]!.2 + 1=E)->ofN d d2 f (k + 1)=a.push (E,(N - 1))):=fun h=>m.out.trans (vao (fun h'=>h h'.2))
     have HJ:Hid (a[a.size - 1]!.2 + 1=E->ofN d d2 f (k + 1)=a.set! (a.size - 1) (a[a.size - 1]!.1,(N - 1))):=fun h=>m.out.trans (vam ⟨O,h⟩)
     have HF:Hid ((flatK encR 2 (a.set! (a.size - 1) (a[a.size - 1]!.1,(N - 1)))).toList=(flatK encR 2 a).toList.set ((a.size - 1) * 2 + 1) (.int .i64 (N - 1))):=qhd a (a.size - 1) jo _;have c5:=b.frozenAt ((a.size - 1) * 2 + 1);have a2:=n.1;have a3:=n.2.1;have a4:=n.2.2;clear hH n m;generalize a[a.size - 1]! = y at a2 a3 a4 s HP HJ HF;simp only [encR,vac,vaf] at s;have p0:(0:Int)<=(a.size:Int) - 1:=by omega
     have p1:(a.size:Int) - 1 < (a.size:Int):=by omega
     have p2:(1:Int)<=(a.size:Int):=by omega
     have c7:((a.size:Int) - 1).toNat=a.size - 1:=by omega
     have d0:IntKind.i64.wrap ((a.size:Int) - 1)=(a.size:Int) - 1:=by rw [vbc];omega
     have d3:IntKind.i64.wrap (y.2 + 1)=y.2 + 1:=by rw [vbc];omega
     by_cases B:y.2 + 1=E
     .have Z:(y.2 + 1 == E)=true:=by simp [B]
      have r:=hI (HJ.out B);clear B
      go_wp2_with (go_at_call 229;first
      | ((with_reducible refine (qeb x c1 d E w.heap.size wr R jo).mono ?_);rintro e o ⟨rfl,rfl⟩)
      | ((with_reducible refine (qeb G c2 d2 E w.heap.size wr r2 jo).mono ?_);rintro e o ⟨rfl,rfl⟩))
      go_quiet (fail);go_wp2;obtain ⟨a1,c8⟩:=World.ownsRow.stored (w:=wr.drewN nq) (by exact b) ((a.size - 1) * 2 + 1) (.int .i64 (N - 1));exact ⟨⟨k + 1,by omega,by go_num,(by rw [r.out,HF.out];simpa using a1),(qaj u nq).setCell (p:=⟨g0,_,none⟩) Y _⟩,by simp [intOf];omega⟩
     have Z:(y.2 + 1 == E)=false:=by simp [B]
     have r:=hI (HP.out B);clear B
     go_wp2_with (go_at_call 229;first
     | ((with_reducible refine (qeb x c1 d E w.heap.size wr R jo).mono ?_);rintro e o ⟨rfl,rfl⟩)
     | ((with_reducible refine (qeb G c2 d2 E w.heap.size wr r2 jo).mono ?_);rintro e o ⟨rfl,rfl⟩))
     go_quiet (fail);have g:(wr.drewN nq).ownsRow H.heap.size 124 2 (.slice (some ⟨g0,0,none⟩) a.size V) a.size (flatK encR 2 a).toList:=b;go_wp2_with (at_builtin;refine vay _ rfl _ _ 64 rfl H.heap.size 124 i0 (.agg #[.int .i64 0,.int .i64 0]) 2 16 underlying64 z C D F rfl jd _ _ _ rfl (g.alloc _) ⟨wr.heap.size,0,none⟩ 1 1 [.int .i64 E,.int .i64 (N - 1)] rfl rfl (qcb (wr.drewN nq) _ _ _) jV jl jo jso ?_;intro v' S l j _);exact ⟨⟨k + 1,by omega,by go_num,(by rw [r.out,vbk,qax qbj];exact l),qes (qaj u nq) P g j⟩,by simp [intOf];omega⟩
    have M:=hI (bnd_out J);have d4:decide ((k:Int) + 1 < (f.size:Int))=false:=by simp;omega
    rw [M.out] at m;rcases vba a.size with O | O
    .obtain rfl:a=#[]:=var O
     have r:Hid (ofN d d2 f (k + 1)=#[(E,1000000)]):=m.out.trans (vao js);obtain ⟨A,c,rfl,_,_⟩:=qaq b;clear m O
     go_wp2_with (go_at_call 229;first
      | ((with_reducible refine (qeb x c1 d E w.heap.size wr R jo).mono ?_);rintro e o ⟨rfl,rfl⟩)
      | ((with_reducible refine (qeb G c2 d2 E w.heap.size wr r2 jo).mono ?_);rintro e o ⟨rfl,rfl⟩))
     go_quiet (fail);have g:(wr.drewN nq).ownsRow H.heap.size 124 2 (.slice A 0 c) 0 []:=by have:=b;rw [qdl] at this;exact this
     go_wp2_with (at_builtin;refine vay _ rfl _ _ 64 rfl H.heap.size 124 i0 (.agg #[.int .i64 0,.int .i64 0]) 2 16 underlying64 z C D F rfl jd _ _ _ rfl (g.alloc _) ⟨wr.heap.size,0,none⟩ 1 1 [.int .i64 E,.int .i64 1000000] rfl rfl (qcb (wr.drewN nq) _ _ _) jV jl jo jso ?_;intro v' S l j _);exact ⟨⟨k + 1,by omega,by go_num,(by rw [r.out];show S.ownsRow _ _ _ _ ((#[]:Array (Int×Int)).push (E,1000000)).size (flatK encR 2 (#[].push (E,1000000))).toList;rw [vbk,qax qbj,qdl];exact l),qes (qaj u nq) P g j⟩,by simp [intOf];omega⟩
    obtain ⟨g0,V,rfl,Y,c6,hH⟩:=qbl b (by
     rintro rfl;obtain ⟨_,⟨_,h'⟩ | ⟨_,_,_,e,_⟩⟩:=b
     .omega
     cases e)
    have n:=U.out.at_ (k:=a.size - 1) jo;have s:=(hH ((a.size - 1) * 2 + 1) (by rw [size_flatK];omega)).1;rw [vcc,qfw _ _ _ _ _ jo jd] at s;have HP:Hid (¬ (a[a.size - 1]!.2 + 1=E)->ofN d d2 f (k + 1)=a.push (E,1000000)):=fun h=>m.out.trans (vao (fun h'=>h h'.2))
    have HJ:Hid (a[a.size - 1]!.2 + 1=E->ofN d d2 f (k + 1)=a.set! (a.size - 1) (a[a.size - 1]!.1,1000000)):=fun h=>m.out.trans (vam ⟨O,h⟩)
    have HF:Hid ((flatK encR 2 (a.set! (a.size - 1) (a[a.size - 1]!.1,1000000))).toList=(flatK encR 2 a).toList.set ((a.size - 1) * 2 + 1) (.int .i64 1000000)):=qhd a (a.size - 1) jo _;have c5:=b.frozenAt ((a.size - 1) * 2 + 1);have a2:=n.1;have a3:=n.2.1;have a4:=n.2.2;clear hH n m;generalize a[a.size - 1]! = y at a2 a3 a4 s HP HJ HF;simp only [encR,vac,vaf] at s;have p0:(0:Int)<=(a.size:Int) - 1:=by omega
    have p1:(a.size:Int) - 1 < (a.size:Int):=by omega
    have p2:(1:Int)<=(a.size:Int):=by omega
    have c7:((a.size:Int) - 1).toNat=a.size - 1:=by omega
    have d0:IntKind.i64.wrap ((a.size:Int) - 1)=(a.size:Int) - 1:=by rw [vbc];omega
    have d3:IntKind.i64.wrap (y.2 + 1)=y.2 + 1:=by rw [vbc];omega
    by_cases B:y.2 + 1=E
    .have Z:(y.2 + 1 == E)=true:=by simp [B]
     have r:=hI (HJ.out B);clear B
     go_wp2_with (go_at_call 229;first
     | ((with_reducible refine (qeb x c1 d E w.heap.size wr R jo).mono ?_);rintro e o ⟨rfl,rfl⟩)
     | ((with_reducible refine (qeb G c2 d2 E w.heap.size wr r2 jo).mono ?_);rintro e o ⟨rfl,rfl⟩))
     go_quiet (fail);go_wp2;obtain ⟨a1,c8⟩:=World.ownsRow.stored (w:=wr.drewN nq) (by exact b) ((a.size - 1) * 2 + 1) (.int .i64 1000000);exact ⟨⟨k + 1,by omega,by go_num,(by rw [r.out,HF.out];simpa using a1),(qaj u nq).setCell (p:=⟨g0,_,none⟩) Y _⟩,by simp [intOf];omega⟩
    have Z:(y.2 + 1 == E)=false:=by simp [B]
    have r:=hI (HP.out B);clear B
    go_wp2_with (go_at_call 229;first
    | ((with_reducible refine (qeb x c1 d E w.heap.size wr R jo).mono ?_);rintro e o ⟨rfl,rfl⟩)
    | ((with_reducible refine (qeb G c2 d2 E w.heap.size wr r2 jo).mono ?_);rintro e o ⟨rfl,rfl⟩))
    go_quiet (fail);have g:(wr.drewN nq).ownsRow H.heap.size 124 2 (.slice (some ⟨g0,0,none⟩) a.size V) a.size (flatK encR 2 a).toList:=b;go_wp2_with (at_builtin;refine vay _ rfl _ _ 64 rfl H.heap.size 124 i0 (.agg #[.int .i64 0,.int .i64 0]) 2 16 underlying64 z C D F rfl jd _ _ _ rfl (g.alloc _) ⟨wr.heap.size,0,none⟩ 1 1 [.int .i64 E,.int .i64 1000000] rfl rfl (qcb (wr.drewN nq) _ _ _) jV jl jo jso ?_;intro v' S l j _);exact ⟨⟨k + 1,by omega,by go_num,(by rw [r.out,vbk,qax qbj];exact l),qes (qaj u nq) P g j⟩,by simp [intOf];omega⟩
   have r:Hid (ofN d d2 f (k + 1)=ofN d d2 f k):=by show _=_;rw [HS.out,vam (Or.inr b1)]
   go_wp2_with (go_at_call 229;first
    | ((with_reducible refine (qeb x c1 d E w.heap.size wr R jo).mono ?_);rintro e o ⟨rfl,rfl⟩)
    | ((with_reducible refine (qeb G c2 d2 E w.heap.size wr r2 jo).mono ?_);rintro e o ⟨rfl,rfl⟩))
   exact ⟨⟨k + 1,by omega,by go_num,by rw [r.out];exact b,u⟩,by simp [intOf];omega⟩
  obtain rfl:k=f.size:=by omega
  go_wp2;go_ret;exact ⟨_,rfl,by rw [HR.out];exact qbx b q.out.size,q.out.trans (u.mono q.out.size)⟩
theorem qpa (s t:Option Addr) (c1 c2:Nat) (a d2:Array (Int×Int)) (E F:Nat) (w:World) (G:RdK encR 2 E w s a) (H:RdK encR 2 F w t d2) (S:d2.size<=100000000) :
 Calls prog 114 #[.slice s a.size c1,.slice t d2.size c2] w fun e N=>e=.returned (.bool (decide (a=d2)))/\∃ n,N=w.drewN n:=by
 by_cases q:a.size=d2.size
 .have I:((a.size:Int) != (d2.size:Int))=false:=by simp [q]
  have r:=hI q;have L:a.size<=d2.size:=by omega
  clear q;go_in;go_wp2
  go_loopw [5] (fun i wr=>∃ k n:Nat,k<=a.size/\i=.int .i64 k/\wr=w.drewN n/\∀ j,j < k->a[j]! = d2[j]!) (fun i _=>a.size - (intOf i).toNat)
  case atStart=>exact ⟨0,0,vaj _,rfl,rfl,fun j l=>absurd l jo⟩
  case round =>
   obtain ⟨k,n,R,rfl,rfl,l⟩:=hrel;have u:=hI l;clear l;by_cases p:k < a.size
   .obtain ⟨P,U,rfl,_,f⟩:=G.at_ p
    obtain ⟨Q,V,rfl,_,g⟩:=H.at_ (i:=k) jo;have v:=f 0 jo;have z:=f 1 jo;have A:=g 0 jo;have B:=g 1 jo;clear f g;have O:Hid (k < a.size):=p;generalize C:a[k]! = x at v z;generalize D:d2[k]! = y at A B;have c:=hI C;clear C;have d:=hI D;clear D;simp only [vak,encR,vac,vaf] at v z A B;have T:(k:Int) < (a.size:Int):=by omega
    have M:(k:Int) < (d2.size:Int):=by omega
    by_cases b:x=y
    .subst b
     go_wp2;go_quiet (fail);go_wp2;go_roundw
     case rel=>exact ⟨k + 1,_,by omega,by go_num,rfl,fun j l=>by
      rcases val j k with h | h
      .exact u.out j h
      obtain rfl:j=k:=by omega
      rw [c.out,d.out]⟩
     case measure=>simp [intOf];omega
    have m:=hI b;by_cases o:x.1=y.1
    .have K:(x.1 == y.1)=true:=by simp [o]
     have J:(x.2 == y.2)=false:=by simp;intro h;exact b (Prod.ext o h)
     clear b o;go_wp2;go_quiet (fail);go_wp2;go_ret;exact ⟨qad (by symm;rw [vat];rintro rfl;exact m.out (by rw [<-c.out,<-d.out])),_,vcs _ _ _⟩
    have J:(x.1 == y.1)=false:=by simp [o]
    clear b o;go_wp2;go_quiet (fail);go_wp2;go_ret;exact ⟨qad (by symm;rw [vat];rintro rfl;exact m.out (by rw [<-c.out,<-d.out])),_,vcs _ _ _⟩
   go_wp2;go_ret;exact ⟨qad (by symm;rw [vbj];exact qsm r.out fun j l=>u.out j jo),n,rfl⟩
 have I:((a.size:Int) != (d2.size:Int))=true:=by simp;omega
 have r:=hI q;clear q;go_in;go_wp2;go_ret;exact ⟨qad (by symm;rw [vat];rintro rfl;exact r.out rfl),0,rfl⟩
theorem qxi (l:List (Int×Int)):(l.flatMap encR).toArray=flatK encR 2 l.toArray:=by
 apply Array.ext';rw [qer qbj]
def RdV (w:World) (v:Value) (out:Array (Int×Int)):Prop:=∃ A c,v=.slice A out.size c/\RdK encR 2 w.heap.size w A out/\(A=none->c=0)
theorem RdV.below {w w':World} {v:Value} {out:Array (Int×Int)} (h:RdV w v out) (a:Below w.heap.size w w'):RdV w' v out:=by
 obtain ⟨A,c,rfl,d,b⟩:=h;exact ⟨A,c,rfl,(d.below a).mono a.size,b⟩
theorem RdV.own {w:World} {a:Nat} {e:TypeId} {v:Value} {out:Array (Int×Int)} (h:w.ownsRow a e 2 v out.size (flatK encR 2 out).toList):RdV w v out:=qaq h
def AddE (d1 d2 out:Array (Int×Int)):Prop:=(qam d1=0->Fit (pAdd d1 d2) d1 out)/\(qam d1≠0->out=#[])
def LessE (d:Array (Int×Int)) (r:Int×Int) (out:Array (Int×Int)):Prop:=(qam d=0->Fit (qmz d r) d out)/\(qam d≠0->out=#[])
def GapsE (d:Array (Int×Int)) (r:Int×Int) (out:Array (Int×Int)):Prop:=(qam d=0->Fit (pGaps d r) #[] out)/\(qam d≠0->out=#[])
theorem AddE.uniq {d d2 a b:Array (Int×Int)} (h:AddE d d2 a) (k:AddE d d2 b):a=b:=by
 by_cases c:qam d=0
 .exact (h.1 c).uniq (k.1 c)
 rw [h.2 c,k.2 c]
theorem LessE.uniq {d a b:Array (Int×Int)} {r:Int×Int} (h:LessE d r a) (k:LessE d r b):a=b:=by
 by_cases c:qam d=0
 .exact (h.1 c).uniq (k.1 c)
 rw [h.2 c,k.2 c]
theorem GapsE.uniq {d a b:Array (Int×Int)} {r:Int×Int} (h:GapsE d r a) (k:GapsE d r b):a=b:=by
 by_cases c:qam d=0
 .exact (h.1 c).uniq (k.1 c)
 rw [h.2 c,k.2 c]
theorem Fit.size {p:Int->Bool} {was out:Array (Int×Int)} (h:Fit p was out) (a:was.size<=1000):out.size<=1000:=by
 obtain ⟨s,_,rfl⟩:=h;split
 .assumption
 exact a
theorem AddE.size {b d2 out:Array (Int×Int)} (h:AddE b d2 out):out.size<=1000:=by
 by_cases a:qam b=0
 .exact (h.1 a).size (qcy a).1
 rw [h.2 a];simp
theorem LessE.size {d out:Array (Int×Int)} {r:Int×Int} (h:LessE d r out):out.size<=1000:=by
 by_cases a:qam d=0
 .exact (h.1 a).size (qcy a).1
 rw [h.2 a];simp
theorem GapsE.size {d out:Array (Int×Int)} {r:Int×Int} (h:GapsE d r out):out.size<=1000:=by
 by_cases a:qam d=0
 .exact (h.1 a).size js
 rw [h.2 a];simp
def sameR (a b:Array (Int×Int)):Bool:=decide (a=b)
theorem r4Same_b (b c:Option Addr) (c1 c2:Nat) (a d2:Array (Int×Int)) (w:World) (d:RdK encR 2 w.heap.size w b a) (f:RdK encR 2 w.heap.size w c d2) (h:d2.size<=100000000) :
 Calls prog 114 #[.slice b a.size c1,.slice c d2.size c2] w fun e j=>e=.returned (.bool (sameR a d2))/\Below w.heap.size w j :=
 (qpa b c c1 c2 a d2 _ _ w d f h).mono fun _ _ ⟨g,n,i⟩=>⟨g,by rw [i];exact qaj (vag _ _) n⟩
theorem IsN.fit {p:Int->Bool} {s was:Array (Int×Int)} (h:IsN p s) (a:s.size<=1000):Fit p was s:=⟨s,h,by rw [vam a]⟩
theorem NL.lit {d:Array (Int×Int)} (h:qam d=0):NL d.toList:=NL.of_set h
theorem RdK.lit (w:World) (l:List (Int×Int)) (cs:Array Value) (h:cs=(l.flatMap encR).toArray) (e:TypeId):RdK encR 2 (w.alloc (.cells cs e)).heap.size (w.alloc (.cells cs e)) (some ⟨w.heap.size,0,none⟩) l.toArray :=
 (RdK.new w encR 2 l.toArray e cs (h.trans (qxi l))).mono js
theorem RdK.up {B:Nat} {w w':World} {A:Option Addr} {d:Array (Int×Int)} (h:RdK encR 2 w.heap.size w A d) (a:Below w.heap.size w w') (_:B=B):RdK encR 2 w'.heap.size w' A d:=(h.below a).mono a.size
theorem Formed.isN {m was out:Array (Int×Int)} (h:Formed m was out) (i:∀ x ∈ m,isR x=true->1<=x.1/\x.1<=x.2/\x.2<=1000000) (y:m.size<=1000):IsN (inR m) out/\out.size<=m.size:=by
 obtain ⟨s,c,n⟩:=h.fit i;obtain ⟨a,b,d⟩:=h;have l:(qhc (a.toList.filter isR)).size<=m.size:=by
  have:=qgr (a.toList.filter isR) #[]
  have u:=vcf isR a.toList;have v:a.toList.length=m.size:=by rw [ved,b.1]
  have q:(#[]:Array (Int×Int)).size=0:=rfl;rw [q] at this;unfold qhc;omega
 rw [vam jo] at d;refine ⟨?_,by rw [d];exact l⟩;by_cases g:s.size<=1000
 .rw [vam g] at n;rw [n];exact c
 have o:=(Formed.fit (was:=#[]) ⟨a,b,rfl⟩ i)
 obtain ⟨r,j,e⟩:=o
 have:s=r:=c.uniq j
 subst this;rw [vam (show (qhc (a.toList.filter isR)).size<=1000 by omega),vao g] at e;have p:=(Formed.fit (was:=#[(0,0)]) ⟨a,b,rfl⟩ i)
 obtain ⟨t,k,f⟩:=p
 have:s=t:=c.uniq k
 subst this;rw [vam (show (qhc (a.toList.filter isR)).size<=1000 by omega),vao g,e] at f;simp at f
theorem IsN.congr {p q:Int->Bool} {s:Array (Int×Int)} (h:IsN p s) (e:∀ n,p n=q n):IsN q s:=⟨h.1,fun n=>(h.2 n).trans (e n)⟩
theorem IsN.set {p:Int->Bool} {s:Array (Int×Int)} (h:IsN p s) (a:s.size<=1000):qam s=0:=h.1.set a
theorem IsN.has {p:Int->Bool} {s:Array (Int×Int)} (h:IsN p s) (a:s.size<=1000) (n:Int):qbg s n=p n:=by
 unfold qbg;rw [h.set a,h.2 n];simp
theorem add_few {a d2 out:Array (Int×Int)} (c:qam a=0) (h:Formed (qiv a d2 d2.size) a out) (d:a.size + d2.size<=1000):IsN (pAdd a d2) out/\out.size<=a.size + d2.size:=by
 have:=h.isN (qqf c _) (by rw [qil];exact d)
 rw [qil] at this;refine ⟨this.1.congr fun n=>?_,this.2⟩;rw [vbd,qxd];unfold pAdd;rw [vav,vcd,qhe,<-qim]
 constructor
 .rintro (h | h)
  .exact ⟨qib (NL.of_set c) h,Or.inl h⟩
  exact ⟨h.1,Or.inr h.2⟩
 rintro ⟨h,b | b⟩
 .exact Or.inl b
 exact Or.inr ⟨h,b⟩
theorem qqk {d:Array (Int×Int)} (r:qam d=0) (b:Int):b<=preE d b/\(preE d b<=b\/preE d b<=1000000)/\(∀ n,b < n->n<=preE d b->inR d n=true)/\inR d (preE d b + 1)=false:=by
 have l:=NL.of_set r;unfold preE;rw [vam r];cases g:d.toList.find? (preB b) with
 | none =>
   refine ⟨vdo _,Or.inl (vdo _),fun n f a=>?_,?_⟩
   .simp at a;omega
   rw [vbi];intro k;obtain ⟨x,e,f,a⟩:=qgi.1 k
   have:=List.find?_eq_none.1 g x e
   unfold preB at this;simp at this f a;omega
 | some x =>
   have e:=List.mem_of_find?_eq_some g;have q:=List.find?_some g;unfold preB at q;simp only [vap] at q;have o:=l.1 x e;simp only [Option.map_some,Option.getD_some];refine ⟨by omega,Or.inr o.2.2,fun n f a=>qgi.2 ⟨x,e,by omega,a⟩,?_⟩;rw [vbi];intro k;obtain ⟨y,s,f,a⟩:=qgi.1 k;obtain ⟨i,m,rfl⟩:=vbt.1 e;obtain ⟨j,p,rfl⟩:=vbt.1 s;have c:=vbp.1 l.2;rcases vfc i j with h | rfl | h
   .have:=c i j m p h;omega
   .omega
   have:=c j i p m h;omega
theorem qxj (g:Option Addr) (c1:Nat) (b:Array (Int×Int)) (h:Option Addr) (c2:Nat) (d2:Array (Int×Int)) (w:World) (k:RdK encR 2 w.heap.size w g b) (l:RdK encR 2 w.heap.size w h d2) (f:qam b=0) (i:b.size + d2.size<=1000) :
 Calls prog 75 #[.slice g b.size c1,.slice h d2.size c2] w fun e j=>∃ v a,e=.returned v/\IsN (pAdd b d2) a/\a.size<=b.size + d2.size/\RdV j v a/\Below w.heap.size w j :=
 (gAdd_any g c1 b h c2 d2 w k l jo).mono fun _ _ ⟨v,a,n,c,_,d,m⟩=>⟨v,a,n,(add_few f (c f) i).1,(add_few f (c f) i).2,RdV.own d,m⟩
