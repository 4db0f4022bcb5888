/- Texts that the law leans on. -/
import Derived.Shelf.SlSortCmp.InsertionK
import Derived.Test.YtdcfffhoajmafaaGreatQRead
set_option maxRecDepth 1000000
set_option maxHeartbeats 4000000
namespace Go.Proofs.YtdcfffhoajmafaaGreat
open Go.RowKit Go.Sort Go.Proofs.Tryz
def orI (x y:Int):Int:=if x=0 then y else x
theorem Or2_any (x y:Int) (b d:Nat) (w:World) (j:w.cell? ⟨b,0,none⟩=some (.int .i64 x)) (k:w.cell? ⟨b,1,none⟩=some (.int .i64 y)) :
 Calls prog 259 #[.slice (some ⟨b,0,none⟩) 2 d] w fun e h=>e=.returned (.int .i64 (orI x y))/\w=h:=by
 by_cases a:x=0
 .subst a
  by_cases c:y=0
  .subst c
   go_in;go_wp2;refine vdi 3 ?_;rw [vcy];go_wp2;rw [vcy];go_wp2;rw [vcy];go_wp2;go_ret;exact ⟨qag rfl,rfl⟩
  have g:(y != 0)=true:=by simp [c]
  have i:=hI c;clear c;go_in;go_wp2;refine vdi 2 ?_;rw [vcy];go_wp2;rw [vcy];go_wp2;go_ret;exact ⟨qag rfl,rfl⟩
 have g:(x != 0)=true:=by simp [a]
 have f:=hI a;clear a;go_in;go_wp2;refine vdi 1 ?_;rw [vcy];go_wp2;go_ret;exact ⟨qag (by unfold orI;rw [vao f.out]),rfl⟩
def cmpA (x y:Int×Int):Int:=orI (Lib.compareInt x.1 y.1) (Lib.compareInt x.2 y.2)
def qae (x:Int×Int):List Value:=[.int .i64 x.1,.int .i64 x.2]
theorem grown4 (w:World) (a b c d:Obj):((((w.alloc a).alloc b).alloc c).alloc d).drew=grow (w.drewN 1) #[a,b,c,d]:=by
 rw [alloc_eq_grow,alloc_eq_grow,alloc_eq_grow,alloc_eq_grow,grow_grow,grow_grow,grow_grow];rfl
theorem Below.of_grow (W:World) (q:Nat) (b:Array Obj):Below W.heap.size W (grow (W.drewN q) b) :=
 ⟨rfl,rfl,rfl,by simp [grow,World.drewN],fun k a=>by simp [grow,World.drewN,Array.getElem?_append_left a]⟩
theorem qwk (x y:Int×Int) (w:World) :
 Calls prog 215 #[.agg #[],.agg #[.int .i64 x.1,.int .i64 x.2],.agg #[.int .i64 y.1,.int .i64 y.2]] w fun e g=>e=.returned (.int .i64 (cmpA x y))/\∃ q c,g=grow (w.drewN q) c:=by
 go_in;go_wp2;refine qny 10 jk jk ?_;simp only [List.take_succ_cons,List.take_zero,List.drop_succ_cons,List.drop_zero]
 repeat (first | still_step | still_call (cmp_Compare_int _ _ _))
 refine wpStill_nil ?_;generalize a:Lib.compareInt x.1 y.1=d;generalize b:Lib.compareInt x.2 y.2=f;have h:Hid (orI d f=cmpA x y):=by subst a b;rfl
 clear a b;go_wp2_with (go_at_call 259;refine (Or2_any d f _ _ _ (by simp [go_sem]) (by simp [go_sem])).mono ?_;rintro e g ⟨rfl,rfl⟩);go_ret;exact ⟨qag h.out,1,_,grown4 _ _ _ _ _⟩
theorem qdf (x y:Int×Int) (w:World) :
 Calls prog 215 #[.agg #[],.agg #[.int .i64 x.1,.int .i64 x.2],.agg #[.int .i64 y.1,.int .i64 y.2]] w fun e c=>e=.returned (.int .i64 (cmpA x y))/\Below w.heap.size w c :=
 (qwk x y w).mono fun _ _ ⟨a,q,d,b⟩=>⟨a,by rw [b];exact Below.of_grow _ _ _⟩
def qaf (x y:Int×Int):Bool:=decide (x.1 < y.1\/x.1=y.1/\x.2 < y.2)
theorem cmpA_lt (x y:Int×Int):decide (cmpA x y < 0)=qaf x y:=by
 unfold cmpA orI qaf Lib.compareInt;by_cases a:x.1 < y.1
 .simp [a]
 by_cases c:y.1 < x.1
 .have:x.1≠y.1:=by omega
  simp [a,c,this]
 have:x.1=y.1:=by omega
 by_cases b:x.2 < y.2
 .simp [this,b]
 by_cases d:y.2 < x.2 <;> simp [this,b,d]
theorem rLess_any (x y:Int×Int) (w:World) :
 Calls prog 185 #[.agg #[.int .i64 x.1,.int .i64 x.2],.agg #[.int .i64 y.1,.int .i64 y.2]] w fun e b=>e=.returned (.bool (qaf x y))/\Below w.heap.size w b:=by
 go_in;go_wp2
 .have h:(x.1 != y.1)=true:=by assumption
  go_ret;refine ⟨qad ?_,((vag _ _).alloc (vaa _) _).alloc js _⟩;have a:¬ x.1=y.1:=by simpa using h
  unfold qaf;simp [a]
 have h:(x.1 != y.1)=false:=by assumption
 go_ret;refine ⟨qad ?_,((vag _ _).alloc (vaa _) _).alloc js _⟩;have a:x.1=y.1:=by simpa using h
 unfold qaf;simp [a]
end Go.Proofs.YtdcfffhoajmafaaGreat
namespace Go.Proofs.YtdcfffhoajmafaaGreat
open Go.RowKit Go.Sort Go.Lib Go.Proofs.Tryz
theorem ltOf_cmpA:ltOf cmpA=qaf:=by funext x y;exact cmpA_lt x y
theorem ins_any (f off X a b:Nat) (d:Array (Int×Int)) (w:World) (hH:HoldsK qae 2 w f off d) (q:f < w.heap.size) (a6:a<=b) (hb:b<=d.size) (b3:d.size < 4611686018427387904) :
 Calls prog 274 #[.slice (some ⟨f,off,none⟩) d.size X,.int .i64 a,.int .i64 b,.func (.func 215) #[.agg #[]] #[]] w fun e w' =>
  e=.returned (.tuple #[])/\∃ n G,w'=sortWorldK qae 2 w f off n (Sort.insertionSort (ltOf cmpA) d a b) G:=by
 have T:Hid (w=sortWorldK qae 2 w f off 0 d #[]):=by show w=_;unfold sortWorldK;rw [grow_empty];exact (putRowK_self qae 2 w f off d hH).symm
 have HH:Hid (HoldsK qae 2 w f off d):=hH;clear hH;go_in;go_wp2
 go_loopg [8] (b - a) (fun g1 vi wr=>∃ (i n:Nat) (F:Array (Int×Int)) (G:Array Obj),vi=.int .i64 i/\a < i/\i<=b + 1/\b + 1 - i<=g1 + 1/\F.size=d.size/\wr=sortWorldK qae 2 w f off n F G/\Hid (insOuter (ltOf cmpA) a b i F=insOuter (ltOf cmpA) a b (a + 1) d))
 case atStart=>exact ⟨a + 1,0,d,#[],by go_num,by omega,by omega,by omega,rfl,T.out,rfl⟩
 case round =>
  obtain ⟨i,n,F,G,rfl,a7,b1,a9,a2,rfl,HO⟩:=hrel;by_cases P:i < b
  .have Q:(i:Int) < (b:Int):=by omega
   go_wp2
   go_loopg [9] i (fun g2 vj a5=>∃ (j m:Nat) (h:Array (Int×Int)) (o:Array Obj),vj=.int .i64 j/\a<=j/\j<=i/\j<=g2/\h.size=d.size/\a5=sortWorldK qae 2 w f off m h o/\Hid (insInner (ltOf cmpA) a j h=insInner (ltOf cmpA) a i F))
   case atStart=>exact ⟨i,n,F,G,rfl,by omega,vaa _,vaa _,a2,rfl,rfl⟩
   case round =>
    obtain ⟨j,m,h,o,rfl,a8,b2,b0,s,rfl,HI⟩:=hrel;have L:Hid ((j<=a\/ltOf cmpA h[j]! h[j - 1]! = false)->Hid (insOuter (ltOf cmpA) a b (i + 1) h=insOuter (ltOf cmpA) a b (a + 1) d)):=fun R=>by
     show _=_;rw [<-HO.out,insOuter_go _ _ _ _ _ P,<-HI.out,insInner_stop _ _ _ _ R]
    by_cases a0:a < j
    .have O:(a:Int) < (j:Int):=by omega
     obtain ⟨k,rfl⟩:∃ k,j=k + 1:=⟨j - 1,by omega⟩
     obtain ⟨H,z⟩:∃ x,h[k + 1]! = x:=⟨_,rfl⟩
     obtain ⟨I,A⟩:∃ x,h[k]! = x:=⟨_,rfl⟩
     have r:∀ l g,grow ((sortWorldK qae 2 w f off m h o).drewN l) g=sortWorldK qae 2 w f off (m + l) h (o ++ g):=fun l g=>sortWorldK_grown_c qae 2 w f off m l h o g
     have N:∀ l g,HoldsK qae 2 (grow ((sortWorldK qae 2 w f off m h o).drewN l) g) f off h:=fun l g=>by rw [r];exact holdsK_sortWorldK_c qae 2 w f off d h _ _ HH.out q s
     have M:∀ l g i c,i < d.size->c < 2->(grow ((sortWorldK qae 2 w f off m h o).drewN l) g).cell? ⟨f,off + i * 2 + c,none⟩=some (qae h[i]!)[c]!:=fun l g i c hi hc=>((N l g).cell (i:=i) (c:=c) jo hc).1
     have c1:∀ l g,(grow ((sortWorldK qae 2 w f off m h o).drewN l) g).cell? ⟨f,off + (k + 1) * 2,none⟩=some (.int .i64 H.1):=fun l g=>by
      have:=M l g (k + 1) 0 jo jo;rw [z] at this;exact this
     have c2:∀ l g,(grow ((sortWorldK qae 2 w f off m h o).drewN l) g).cell? ⟨f,off + (k + 1) * 2 + 1,none⟩=some (.int .i64 H.2):=fun l g=>by
      have:=M l g (k + 1) 1 jo jo;rw [z] at this;exact this
     have c3:∀ l g,(grow ((sortWorldK qae 2 w f off m h o).drewN l) g).cell? ⟨f,off + k * 2,none⟩=some (.int .i64 I.1):=fun l g=>by
      have:=M l g k 0 jo jo;rw [A] at this;exact this
     have c4:∀ l g,(grow ((sortWorldK qae 2 w f off m h o).drewN l) g).cell? ⟨f,off + k * 2 + 1,none⟩=some (.int .i64 I.2):=fun l g=>by
      have:=M l g k 1 jo jo;rw [A] at this;exact this
     have D:=fun W=>qwk H I W
     have C:=hI (show ltOf cmpA H I=decide (cmpA H I < 0) from rfl);have B:Hid _:=r;clear r N M;generalize t:sortWorldK qae 2 w f off m h o=S at c1 c2 c3 c4 B |-
     generalize cmpA H I=cv at D C;have J:=hI D;clear D;have V:=hI t;clear t;have u:=hI z;clear z;have v:=hI A;clear A;have a3:prog.follows .mixedOrders=true:=by kernel_rfl
     have jz:(k:Int) + 1 < (d.size:Int):=by omega
     have b5:(k:Int) < (d.size:Int):=by omega
     have E:(a:Int) < (k:Int) + 1:=by omega
     have p0:(0:Int)<=(k:Int) + 1:=by omega
     have e0:((k:Int) + 1).toNat=k + 1:=by omega
     have b4:IntKind.i64.wrap (k:Int)=(k:Int):=by rw [vbc];omega
     by_cases a1:cv < 0
     .go_wp2_with fail
      go_quiet_grown (first | (go_at_call 215;refine Calls.grown_of (J.out _)));go_wp2_with fail;have y:grow (S.drewN nq) osq=sortWorldK qae 2 w f off (m + nq) h (o ++ osq):=B.out nq osq;have p:HoldsK qae 2 (grow (S.drewN nq) osq) f off h:=by rw [y];exact holdsK_sortWorldK_c qae 2 w f off d h _ _ HH.out q s
      clear c1 c2 c3 c4;generalize grow (S.drewN nq) osq=a4 at y p |-
      have U:Hid (a4=sortWorldK qae 2 w f off (m + nq) h (o ++ osq)):=y;have Y:=p.cell (i:=k + 1) (c:=0) jo jo;have Z:=p.cell (i:=k + 1) (c:=1) jo jo;have f3:=p.cell (i:=k) (c:=0) jo jo;have f4:=p.cell (i:=k) (c:=1) jo jo;rw [u.out] at Y Z;rw [v.out] at f3 f4;simp only [vak,qae,vac,vaf] at Y Z f3 f4;obtain ⟨d1,z1⟩:=Y;obtain ⟨d2,z2⟩:=Z;obtain ⟨d3,z3⟩:=f3;obtain ⟨d4,z4⟩:=f4;clear y p;go_region
      all_goals go_wp2
      go_roundg k
      case measure=>omega
      case rel =>
       refine ⟨k,m + nq + 1,swp h (k + 1) k,o ++ osq,by first | rfl | go_num | (congr 1;omega),by omega,by omega,vaa _,by rw [size_swp];exact s,?_,(show Hid _ from ?_)⟩
       .have R:=sortWorldK_swp_c qae 2 w f off (fun _=>rfl) (m + nq) h (o ++ osq) q (k + 1) k jo jo
        rw [u.out,v.out,<-U.out] at R;exact R
       show _=_
       have:=insInner_go (ltOf cmpA) a (k + 1) h a0 (by simp only [vem];rw [u.out,v.out,C.out];exact vah a1)
       simp only [vem] at this;rw [<-HI.out,this]
     go_wp2_with fail;go_quiet_grown (first | (go_at_call 215;refine Calls.grown_of (J.out _)));go_wp2;go_roundg (b - (i + 1))
     case measure=>omega
     case rel=>exact ⟨i + 1,_,h,_,by go_num,by omega,by omega,by omega,s,B.out nq osq,L.out (Or.inr (by simp only [vem];rw [u.out,v.out,C.out];exact vab jo))⟩
    have O:decide ((j:Int) > (a:Int))=false:=vab jo;have E:¬ (a:Int) < (j:Int):=by omega
    have K:Hid ((sortWorldK qae 2 w f off m h o).drew=sortWorldK qae 2 w f off (m + 1) h o):=rfl;generalize t:sortWorldK qae 2 w f off m h o=S at K;have V:=hI t;clear t;go_wp2_with fail;go_region
    all_goals go_wp2
    go_roundg (b - (i + 1))
    case measure=>omega
    case rel=>exact ⟨i + 1,m + 1,h,o,by go_num,by omega,by omega,by omega,s,K.out,L.out (Or.inl jo)⟩
  have Q:¬ (i:Int) < (b:Int):=by omega
  go_wp2;go_end0;exact ⟨rfl,n,G,by unfold Sort.insertionSort;rw [<-HO.out,insOuter_stop _ _ _ _ _ P]⟩
theorem qfq:(prog.info? 29).map (fun i=>(i.zero,i.size,i.bytes))=some (some (.agg #[.int .i64 0,.int .i64 0]),2,16):=by kernel_rfl
theorem qzd:prog.eqGuardType prog.depth 29 = false:=by kernel_rfl
theorem neA_run_I (x y:Int×Int) (w:World):(binOp .neq 29 (.agg #[.int .i64 x.1,.int .i64 x.2]) (.agg #[.int .i64 y.1,.int .i64 y.2])).run prog w=.ok (.bool (!decide (x=y))) w:=by
 have c:prog.underlying 29 = some (.struct (prog.fieldsOf 29)):=by kernel_rfl
 have d:prog.stoodInHeld 29 = false:=by kernel_rfl
 have u3:=underlying3;rw [run_neq_struct,show (10000:Nat)=9999 + 1 from rfl,veg w 9999 29 _ _ c d];simp only [Program.fieldsOf,underlying29];go_simp;obtain ⟨e,f⟩:=x;obtain ⟨g,h⟩:=y;by_cases a:e=g <;> by_cases b:f=h <;> simp [a,b]
theorem arr_ext_I {α:Type} [Inhabited α] {a d2:Array α} (d:a.size=d2.size) (h:∀ j,j < a.size->a[j]! = d2[j]!):a=d2 :=
 Array.ext d fun t b c=>by have:=h t b;rwa [vae a t b,vae d2 t c] at this
theorem qiw (v z:Option Addr) (c1 c2:Nat) (a d2:Array (Int×Int)) (B:Nat) (w:World) (E:RdK qae 2 B w v a) (F:RdK qae 2 B w z d2) (_hn:a.size<=1000000) (P:d2.size<=1000000) :
 Calls prog 43 #[.slice v a.size c1,.slice z d2.size c2] w fun e K=>e=.returned (.bool (decide (a=d2)))/\∃ n,K=w.drewN n:=by
 by_cases r:a.size=d2.size
 .have G:((a.size:Int) != (d2.size:Int))=false:=by simp [r]
  have s:=hI r;have I:a.size<=d2.size:=by omega
  clear r;go_in;go_wp2
  go_loopw [5] (fun i wr=>∃ k n:Nat,k<=a.size/\i=.int .i64 k/\wr=w.drewN n/\∀ j,j < k->a[j]! = d2[j]!) (fun i _=>a.size - (intOf i).toNat)
  case atStart=>exact ⟨0,0,vaj _,rfl,rfl,fun j f=>absurd f jo⟩
  case round =>
   obtain ⟨k,n,O,rfl,rfl,f⟩:=hrel;have A:=hI f;clear f;by_cases q:k < a.size
   .obtain ⟨M,R,rfl,_,t⟩:=E.at_ q
    obtain ⟨N,S,rfl,_,u⟩:=F.at_ (i:=k) jo;have m:=t 0 jo;have e11:=t 1 jo;have o:=u 0 jo;have e21:=u 1 jo;have c:=neA_run_I a[k]! d2[k]!;have H:=qzd;have L:Hid (k < a.size):=q;generalize C:a[k]! = x at m e11 c;generalize D:d2[k]! = y at o e21 c;have g:=hI C;clear C;have l:=hI D;clear D;simp only [vak,qae,vac,vaf] at m e11 o e21;clear t u;have Q:(k:Int) < (a.size:Int):=by omega
    have J:(k:Int) < (d2.size:Int):=by omega
    by_cases b:x=y
    .have p:decide (x=y)=true:=by simp [b]
     have d:=hI b;clear b;rw [p] at c;clear p;go_wp2;go_quiet (fail);go_wp2;go_roundw
     case rel=>exact ⟨k + 1,_,by omega,by go_num,rfl,fun j f=>by
      rcases val j k with h | h
      .exact A.out j h
      obtain rfl:j=k:=by omega
      rw [g.out,l.out];exact d.out⟩
     case measure=>simp [intOf];omega
    have p:decide (x=y)=false:=by simp [b]
    have d:=hI b;clear b;rw [p] at c;clear p;go_wp2;go_quiet (fail);go_wp2;go_ret;exact ⟨qad (by symm;rw [vat];rintro rfl;exact d.out (by rw [<-g.out,<-l.out])),_,vcs _ _ _⟩
   go_wp2;go_ret;exact ⟨qad (by symm;rw [vbj];exact arr_ext_I s.out fun j f=>A.out j jo),n,rfl⟩
 have G:((a.size:Int) != (d2.size:Int))=true:=by simp;omega
 have s:=hI r;clear r;go_in;go_wp2;go_ret;exact ⟨qad (by symm;rw [vat];rintro rfl;exact s.out rfl),0,rfl⟩
end Go.Proofs.YtdcfffhoajmafaaGreat
