/- Texts that the law leans on. -/
import Derived.Test.YtdcfffhoajmafaaGreatQKnU
set_option maxRecDepth 100000
set_option maxHeartbeats 16000000
namespace Go.Proofs.YtdcfffhoajmafaaGreat
open Go.RowKit Go.Sort Go.Lib Go.Proofs.Tryz
section
theorem rAdd_bad (c:Int) (rs ats:Array (Int×Int)) (r:Option Addr) (c1:Nat) (s:Option Addr) (c2:Nat) (lo hi:Int) (b:Array (Int×Int)) (z:Option Addr) (c3:Nat) (w:World) (I:RdK encR 2 w.heap.size w r rs) (J:RdK qae 2 w.heap.size w s ats) (K:RdK qae 2 w.heap.size w z b) (O:b.size<=1000000) (m:addB ⟨c,rs,ats⟩ lo hi b=false) :
 Calls prog 37 #[.agg #[.int .i64 c,.slice r rs.size c1,.slice s ats.size c2],.int .i64 lo,.int .i64 hi,.slice z b.size c3] w fun e y=>e=.returned (.tuple #[.agg #[.int .i64 0,.slice none 0 0,.slice none 0 0],.int .i64 2])/\Below w.heap.size w y:=by
 have q:Hid (∀ W,Below w.heap.size w W->Calls prog 92 #[.agg #[.int .i64 c,.slice r rs.size c1,.slice s ats.size c2]] W fun e y=>e=.returned (.int .i64 (chkE ⟨c,rs,ats⟩))/\Below W.heap.size W y):=fun W o=>qfp c rs ats r c1 s c2 W ((I.below o).mono o.size) ((J.below o).mono o.size)
 have t:Hid (∀ W,Below w.heap.size w W->Calls prog 93 #[.slice z b.size c3,.int .i64 lo,.int .i64 hi] W fun e y=>e=.returned (.bool (qbr hi lo b.toList))/\Below W.heap.size W y):=fun W o=>qmk z c3 b lo hi W ((K.below o).mono o.size) O
 have D:=hI m;have F:=qlz ⟨c,rs,ats⟩;clear I J K m;generalize chkE ⟨c,rs,ats⟩=P at F q;have u:=hI (qhu w (.cells #[.int .i64 c,.slice r rs.size c1,.slice s ats.size c2] 66) (.cells #[.int .i64 0,.slice none 0 0,.slice none 0 0] 66));cases x:chkB ⟨c,rs,ats⟩
 .rw [x] at F
  clear x;go_in;go_wp2_with fail;refine (q.out _ (qab (bel1 w _) _)).mono ?_;rintro e B ⟨rfl,a⟩;obtain ⟨⟨i,j,k⟩,A⟩:=blk3 (qak u.out.2 a);have d:=hI (qaa (qab (bel1 w _) _) a);clear a;go_wp2;refine vau (v:=.tuple #[.agg #[.int .i64 0,.slice none 0 0,.slice none 0 0],.int .i64 2]) (by simp [results,results37,go_sem,i,j,k]) rfl ⟨rfl,?_⟩;exact ((d.out.setCell js _).setCell js _).setCell js _
 rw [x] at F;have G:Hid (lo < 0\/hi < lo\/1000000 < hi\/qbr hi lo b.toList=false):=by
  show _\/_;have h:=D.out;unfold addB at h;rw [x,vcn,ver,vat] at h;by_cases f:lo < 0
  .exact Or.inl f
  by_cases l:hi < lo
  .exact Or.inr (Or.inl l)
  by_cases n:1000000 < hi
  .exact Or.inr (Or.inr (Or.inl n))
  exact Or.inr (Or.inr (Or.inr (by rcases h with h | h;exact absurd ⟨by omega,by omega,by omega⟩ h;exact h)))
 clear x;by_cases f:lo < 0
 .have L:decide (lo < 0)=true:=by simpa using f
  clear f;go_in;go_wp2_with fail;refine (q.out _ (qab (bel1 w _) _)).mono ?_;rintro e B ⟨rfl,a⟩;obtain ⟨⟨i,j,k⟩,A⟩:=blk3 (qak u.out.2 a);have d:=hI (qaa (qab (bel1 w _) _) a);clear a;go_wp2;refine vau (v:=.tuple #[.agg #[.int .i64 0,.slice none 0 0,.slice none 0 0],.int .i64 2]) (by simp [results,results37,go_sem,i,j,k]) rfl ⟨rfl,?_⟩;exact ((d.out.setCell js _).setCell js _).setCell js _
 have L:decide (lo < 0)=false:=vab f;by_cases l:hi < lo
 .have M:decide (hi < lo)=true:=by simpa using l
  clear f l;go_in;go_wp2_with fail;refine (q.out _ (qab (bel1 w _) _)).mono ?_;rintro e B ⟨rfl,a⟩;obtain ⟨⟨i,j,k⟩,A⟩:=blk3 (qak u.out.2 a);have d:=hI (qaa (qab (bel1 w _) _) a);clear a;go_wp2;refine vau (v:=.tuple #[.agg #[.int .i64 0,.slice none 0 0,.slice none 0 0],.int .i64 2]) (by simp [results,results37,go_sem,i,j,k]) rfl ⟨rfl,?_⟩;exact ((d.out.setCell js _).setCell js _).setCell js _
 have M:decide (hi < lo)=false:=vab l;by_cases n:1000000 < hi
 .have N:decide (1000000 < hi)=true:=by simpa using n
  clear f l n;go_in;go_wp2_with fail;refine (q.out _ (qab (bel1 w _) _)).mono ?_;rintro e B ⟨rfl,a⟩;obtain ⟨⟨i,j,k⟩,A⟩:=blk3 (qak u.out.2 a);have d:=hI (qaa (qab (bel1 w _) _) a);clear a;go_wp2;refine vau (v:=.tuple #[.agg #[.int .i64 0,.slice none 0 0,.slice none 0 0],.int .i64 2]) (by simp [results,results37,go_sem,i,j,k]) rfl ⟨rfl,?_⟩;exact ((d.out.setCell js _).setCell js _).setCell js _
 have N:decide (1000000 < hi)=false:=vab n;have H:qbr hi lo b.toList=false:=by
  rcases G.out with g | g | g | g
  .exact absurd g f
  .exact absurd g l
  .exact absurd g n
  exact g
 rw [H] at t;clear f l n H G;go_in;go_wp2_with fail;refine (q.out _ (qab (bel1 w _) _)).mono ?_;rintro e B ⟨rfl,a⟩;have E:=hI (qak u.out.2 a);have d:=hI (qaa (qab (bel1 w _) _) a);clear a;go_wp2_with fail;refine (t.out _ d.out).mono ?_;rintro e Q ⟨rfl,p⟩;obtain ⟨⟨i,j,k⟩,A⟩:=blk3 (qak E.out p);have C:=hI (qaa d.out p);clear p;go_wp2;refine vau (v:=.tuple #[.agg #[.int .i64 0,.slice none 0 0,.slice none 0 0],.int .i64 2]) (by simp [results,results37,go_sem,i,j,k]) rfl ⟨rfl,?_⟩;exact ((C.out.setCell js _).setCell js _).setCell js _
theorem qfu {w:World} {B m k t n u:Nat} {e l:TypeId} {v v':Value} {x f:List Value} (h:w.ownsRow B e k v n x) (q:w.ownsRow m l t v' u f) (s:e≠l):v.ownBlock=none\/v.ownBlock≠v'.ownBlock:=by
 obtain ⟨_,⟨b,_⟩ | ⟨g,o,p,b,_,r,_⟩⟩:=h
 .left
  rw [b];rfl
 obtain ⟨_,⟨c,_⟩ | ⟨y,i,j,c,_,d,_⟩⟩:=q
 .right
  rw [b,c];simp [Value.ownBlock]
 right
 rw [b,c];intro a;simp [Value.ownBlock] at a;subst a;rw [r] at d;simp at d;exact s d.2
def frK (k:KN) (a:Int×Int):Bool:=!hasK k a.1 && !atK k.ats a.1
def alK (k:KN) (atts:Array (Int×Int)) (j:Nat):Array (Int×Int):=k.ats ++ ((atts.toList.take j).filter (frK k)).toArray
theorem alK_succ {k:KN} {a:Array (Int×Int)} {j:Nat} (b:j < a.size):alK k a (j + 1)=if frK k a[j]! then (alK k a j).push a[j]! else alK k a j:=by
 unfold alK;rw [qcv b,vdq];cases h:frK k a[j]! <;> simp [h]
theorem alK_size (k:KN) (a:Array (Int×Int)) (j:Nat):(alK k a j).size<=k.ats.size + a.size:=by
 unfold alK;have b:=vcf (frK k) (a.toList.take j);have c:=List.length_take_le j a.toList;simp at b c |-
 omega
theorem alK_fin {k:KN} {lo hi:Int} {b:Array (Int×Int)} (h:AddA k lo hi b):srtA (alK k b b.size)=allK k b:=by
 unfold alK allK mrgK qix;rw [vaz js];congr 1;simp only [List.filter_filter]
 have:b.toList.filter (frK k)=b.toList.filter fun a=>(!(qbn k.ats.toList).contains a.1) && !(decide (a.1<=k.base) || inR k.rs a.1):=by
  refine List.filter_congr fun a c=>?_
  have f:=((qbs _ _ _).1 h.up).2 a c;have d:=h.lo0;have e:hasK k a.1=(decide (a.1<=k.base) || inR k.rs a.1):=by
   rw [vbd,qwl h.chk,vcd,vap]
   constructor
   .rintro (⟨_,g⟩ | g)
    .exact Or.inl g
    exact Or.inr g
   rintro (g | g)
   .exact Or.inl ⟨by omega,g⟩
   exact Or.inr g
  unfold frK atK;rw [e,Bool.and_comm]
 rw [this];simp
def dblA (l:List (Int×Int)):Array (Int×Int):=(l.map fun a=>(a.1,a.1)).toArray
theorem qor (l:List (Int×Int)):(dblA l).toList.map (·.1)=qbn l:=by
 show (l.map _).map _=_;rw [List.map_map];rfl
theorem qru {d:Array (Int×Int)} {j:Nat} (a:j < d.size):dblA (d.toList.take (j + 1))=dblA (d.toList.take j) ++ #[(d[j]!.1,d[j]!.1)]:=by
 rw [qcv a];simp [dblA]
def tlK (base lo hi:Int) (hs:Array (Int×Int)) (j:Nat):Array (Int×Int):=(woN ((hs.toList.take j).map (·.1)) [(max lo base + 1,hi)]).toArray
theorem tlK_zero (a lo hi:Int) (b:Array (Int×Int)):tlK a lo hi b 0=#[(max lo a + 1,hi)]:=by simp [tlK,woN]
theorem tlK_succ (a lo hi:Int) {b:Array (Int×Int)} {j:Nat} (c:j < b.size):tlK a lo hi b (j + 1)=(woL b[j]!.1 (tlK a lo hi b j).toList).toArray:=by
 unfold tlK;rw [qcv c,vdn,List.map_singleton,woN_snoc]
theorem tlK_size (a lo hi:Int) (b:Array (Int×Int)) (j:Nat):(tlK a lo hi b j).size<=j + 1:=by
 have:=(woN_ok ((b.toList.take j).map (·.1)) (l:=[(max lo a + 1,hi)]) js).2.1
 unfold tlK;simp at this |-
 omega
theorem tlK_fin {k:KN} {lo hi:Int} {a b:Array (Int×Int)} (h:b.toList.map (·.1)=qow k a):tlK k.base lo hi b b.size=quu k lo hi (qow k a):=by
 unfold tlK quu;rw [vaz js,h]
theorem rSort_own (A:Option Addr) (c:Nat) (d:Array (Int×Int)) (w:World) (q:Nat) (h:RdK qae 2 w.heap.size w A d) (m:d.size<=1000000) (r:q < w.heap.size) :
 Calls prog 99 #[.slice A d.size c] w fun e i=>∃ a f,e=.returned (.slice a d.size f)/\RdK qae 2 i.heap.size i a (srtA d)/\(a=none->f=0)/\(∀ g b,a=some ⟨g,b,none⟩->q < g)/\Below w.heap.size w i:=by
 refine (rSort_any A c d w h m).mono ?_;rintro e i ⟨v,rfl,j,l⟩;have k:=qid d;rw [<-k] at j;have n:∀ g,v.ownBlock=some g->q < g:=fun g e=>by
  have:=(j.lt g e).1
  omega
 obtain ⟨a,f,rfl,p,o⟩:=qaq (enc:=qae) j;exact ⟨a,f,by rw [k],p,o,fun g b e=>n g (by rw [e];rfl),l⟩
theorem qzk (a:World) (x:Int×Int) (e:TypeId):RdK qae 2 (a.heap.size + 1) (a.alloc (.cells #[.int .i64 x.1,.int .i64 x.2] e)) (some ⟨a.heap.size,0,none⟩) #[x]:=one2 (qau a _ _ 0) (qau a _ _ 1)
attribute [local go_sem ↓] Go.wp_at_zero Go.wp_at_succ
theorem rAdd_ok (o:Int) (rs ats:Array (Int×Int)) (A1:Option Addr) (c1:Nat) (A2:Option Addr) (c2:Nat) (lo hi:Int) (d:Array (Int×Int)) (A3:Option Addr) (c3:Nat) (w:World) (h1:RdK encR 2 w.heap.size w A1 rs) (h2:RdK qae 2 w.heap.size w A2 ats) (h3:RdK qae 2 w.heap.size w A3 d) (m1:A1=none->c1=0) (m2:A2=none->c2=0)
 (hA:AddA ⟨o,rs,ats⟩ lo hi d) (s1:rs.size<=500) (s2:ats.size + d.size<=400) (s3:d.size<=200) :
 Calls prog 37 #[.agg #[.int .i64 o,.slice A1 rs.size c1,.slice A2 ats.size c2],.int .i64 lo,.int .i64 hi,.slice A3 d.size c3] w fun e D=>∃ v r,e=.returned (.tuple #[v,.int .i64 0])/\KnG w.heap.size D v r/\AddR ⟨o,rs,ats⟩ lo hi d r/\(∃ l,IsN (pK ⟨o,rs,ats⟩ lo hi d) l/\l.size<=rs.size + ats.size + d.size + 1)/\Below w.heap.size w D:=by
 obtain ⟨i0,d6,d7,d8,d9⟩:=vbo qda;obtain ⟨j0,j8,m6,m7,m8⟩:=vbo qfq;have HC:Hid (∀ W,Below w.heap.size w W->Calls prog 92 #[.agg #[.int .i64 o,.slice A1 rs.size c1,.slice A2 ats.size c2]] W fun e D=>e=.returned (.int .i64 0)/\Below W.heap.size W D):=fun W G=>by
  have:=qfp o rs ats A1 c1 A2 c2 W ((h1.below G).mono G.size) ((h2.below G).mono G.size)
  unfold chkE at this
  rwa [vam (qco.2 hA.chk)] at this
 have i4:Hid (∀ W,Below w.heap.size w W->Calls prog 93 #[.slice A3 d.size c3,.int .i64 lo,.int .i64 hi] W fun e D=>e=.returned (.bool true)/\Below W.heap.size W D):=fun W G=>by
  have:=qmk A3 c3 d lo hi W ((h3.below G).mono G.size) jo
  rwa [hA.up] at this
 have n9:Hid (KnV w (.agg #[.int .i64 o,.slice A1 rs.size c1,.slice A2 ats.size c2]) ⟨o,rs,ats⟩):=⟨A1,c1,A2,c2,rfl,h1,h2,m1,m2⟩
 have g8:Hid (∀ t W,Below w.heap.size w W->Calls prog 94 #[.agg #[.int .i64 o,.slice A1 rs.size c1,.slice A2 ats.size c2],.int .i64 t] W fun e D=>e=.returned (.bool (hasK ⟨o,rs,ats⟩ t))/\Below W.heap.size W D):=fun t W G=>qym _ ⟨o,rs,ats⟩ t W (n9.out.below G)
 have m9:Hid (∀ t W,Below w.heap.size w W->Calls prog 95 #[.slice A2 ats.size c2,.int .i64 t] W fun e D=>e=.returned (.bool (atK ats t))/\W=D):=fun t W G=>at_any A2 c2 ats t _ W (h2.below G) jo
 have HT:=hI (qhu w (.cells #[.int .i64 o,.slice A1 rs.size c1,.slice A2 ats.size c2] 66) (.cells #[.int .i64 0,.slice none 0 0,.slice none 0 0] 66));have p4:=hI h1;have h8:=hI h2;have p5:=hI h3;have HA:=hI hA;have o2:=hI m1;have o3:=hI m2;have b0:=hA.chk.b0;have b1:=hA.chk.b1;have l0:=hA.lo0;have l1:=hA.le;have l2:=hA.hi1;simp only at b0 b1;have d1:decide (lo < 0)=false:=vab jo;have d2:decide (hi < lo)=false:=vab jo;have d3:decide (1000000 < hi)=false:=vab jo;have r8:IntKind.i64.wrap (max lo o + 1)=max lo o + 1:=by rw [vbc];omega
 clear h1 h2 h3 m1 m2 hA;go_in;go_wp2_with fail;refine (HC.out _ (qab (bel1 w _) _)).mono ?_;rintro e w1 ⟨rfl,c7⟩;have g5:=hI (qaa (qab (bel1 w _) _) c7);have h9:=hI (i4.out w1 g5.out);have h7:=hI (qak HT.out.1 c7);have g6:=hI (qak HT.out.2 c7);clear c7 HC i4 HT;go_wp2_with fail;refine h9.out.mono ?_;rintro e s ⟨rfl,c8⟩;have Q:=hI (qaa g5.out c8);have R:=hI (qak h7.out c8);have g7:=hI (qak g6.out c8);have o0:Hid (w.heap.size + 1 < s.heap.size):=qcj g7.out;obtain ⟨⟨k0,k1,k2⟩,_⟩:=blk3 R.out;have Y:=qcj R.out;have e8:=hI (qba s 29 qae 2);have r2:RdK qae 2 s.heap.size s A2 ats:=(h8.out.below Q.out).mono Q.out.size;clear c8 h9 h7 g6;go_wp2_with (at_builtin;refine qcq qbd qar jd rfl _ _ 23 rfl s.heap.size 29 j0 (.agg #[.int .i64 0,.int .i64 0]) 16 underlying23 j8 m6 m7 m8 rfl _ #[] rfl e8.out s.heap.size A2 c2 ats rfl (r2.alloc (vaa _) _) o3.out jso jd js ?_;intro v1 w3 b2 j7 _;have i9:Below s.heap.size s w3:=(bel1 s _).grown j7 js (fun k hk=>(e8.out.lt k hk).1));have g4:Hid (w3.ownsRow s.heap.size 29 2 v1 (alK ⟨o,rs,ats⟩ d 0).size (flatK qae 2 (alK ⟨o,rs,ats⟩ d 0)).toList):=by
  have e:#[] ++ ats=alK ⟨o,rs,ats⟩ d 0:=by simp [alK]
  rw [e] at b2;exact b2
 have n0:=hI i9;clear b2 j7 i9 e8 r2 k0 k1 k2 Y
 go_loopw [10,11,12] (fun va vh iv wr=>∃ j:Nat,iv=.int .i64 (j:Int)/\j<=d.size/\wr.ownsRow s.heap.size 29 2 va (alK ⟨o,rs,ats⟩ d j).size (flatK qae 2 (alK ⟨o,rs,ats⟩ d j)).toList/\wr.ownsRow s.heap.size 124 2 vh (dblA (d.toList.take j)).size (flatK qae 2 (dblA (d.toList.take j))).toList/\Below s.heap.size s wr) (fun _ _ iv _=>d.size - (intOf iv).toNat)
 case atStart=>exact ⟨0,rfl,vaj _,g4.out,qbk _ _ _ _ _,n0.out⟩
 case round =>
  obtain ⟨j,rfl,hj,a3,K,hB⟩:=hrel;have g2:=alK_size ⟨o,rs,ats⟩ d j;have c0:(dblA (d.toList.take j)).size<=j:=by simp [dblA];omega
  simp only at g2;have M:=hI hB;clear hB;by_cases V:j < d.size
  .have jz:(j:Int) < (d.size:Int):=by omega
   obtain ⟨b,q,rfl,d0,f⟩:=(p5.out.below (qaa Q.out M.out)).at_ V;have e0:=f 0 jo;have e1:=f 1 jo;have I:b < s.heap.size:=vad d0 Q.out.size;have j4:b < wr.heap.size:=vad I M.out.size;have a7:=hI (alK_succ (k:=⟨o,rs,ats⟩) V);have a2:=hI (qru V);have B:Hid (frK ⟨o,rs,ats⟩ d[j]! = (!hasK ⟨o,rs,ats⟩ d[j]!.1 && !atK ats d[j]!.1)):=rfl;obtain ⟨x,hx⟩:∃ x,d[j]! = x:=⟨_,rfl⟩
   rw [hx] at e0 e1 a7 a2 B;simp only [vak,qae,vac,vaf] at e0 e1;obtain ⟨N,a8⟩:∃ N,alK ⟨o,rs,ats⟩ d j=N:=⟨_,rfl⟩
   obtain ⟨ho,a9⟩:∃ ho,dblA (d.toList.take j)=ho:=⟨_,rfl⟩
   rw [a8] at a3 a7 g2;rw [a9] at K a2 c0;have E:=hI a3;have a6:=hI K;clear f hx a3 K a8 a9;obtain ⟨⟨k0,k1,k2⟩,_⟩:=blk3 (qak R.out M.out);have Y:w.heap.size < wr.heap.size:=qcj (qak R.out M.out);have p0:=fun p:ExtW wr=>p.cell (a:=⟨w.heap.size,0,none⟩) Y k0
   have p1:=fun p:ExtW wr=>p.cell (a:=⟨w.heap.size,1,none⟩) Y k1
   have p2:=fun p:ExtW wr=>p.cell (a:=⟨w.heap.size,2,none⟩) Y k2
   have p3:=fun p:ExtW wr=>p.cell (a:=⟨b,q + j * 2,none⟩) j4 e0
   have f6:∀ p:ExtW wr,Calls prog 94 #[.agg #[.int .i64 o,.slice A1 rs.size c1,.slice A2 ats.size c2],.int .i64 x.1] p.to fun e D=>e=.returned (.bool (hasK ⟨o,rs,ats⟩ x.1))/\Below p.to.heap.size p.to D:=fun p=>g8.out x.1 p.to (qaa Q.out (qaa M.out p.h))
   have f7:∀ p:ExtW wr,Calls prog 95 #[.slice A2 ats.size c2,.int .i64 x.1] p.to fun e D=>e=.returned (.bool (atK ats x.1))/\p.to=D:=fun p=>m9.out x.1 p.to (qaa Q.out (qaa M.out p.h))
   generalize hasK ⟨o,rs,ats⟩ x.1=q1 at f6 B;generalize atK ats x.1=q2 at f7 B;have H1:=hI f6;have H2:=hI f7;have y:Hid (b < s.heap.size/\s.cell? ⟨b,q + j * 2,none⟩=some (.int .i64 x.1)/\s.cell? ⟨b,q + j * 2 + 1,none⟩=some (.int .i64 x.2)):=⟨I,(M.out.cell (p:=⟨b,q + j * 2,none⟩) I).symm.trans e0,(M.out.cell (p:=⟨b,q + j * 2 + 1,none⟩) I).symm.trans e1⟩
   have u:Hid (∀ W,Below s.heap.size s W->Below s.heap.size s W/\W.cell? ⟨b,q + j * 2,none⟩=some (.int .i64 x.1)):=fun W G=>⟨G,(G.cell (p:=⟨b,q + j * 2,none⟩) y.out.1).trans y.out.2.1⟩
   clear f6 f7 k0 k1 k2 e0 e1 j4 Y I;cases q1
   .cases q2
    .have U:frK ⟨o,rs,ats⟩ x=true:=B.out
     rw [U,vam rfl] at a7;clear U B;go_wp2_with fail;refine wprX ?_
     repeat (go_big_quiet_step ((first | (go_at_call 94;exact Calls.ext_of (H1.out _)) | (go_at_call 95;exact Calls.ext_same (H2.out _)))))
     refine van ?_;intro wq b8;obtain ⟨⟨W,J⟩,O⟩:=b8;have b9:wq=W:=O;subst b9;have L:Hid (wq.ownsRow s.heap.size 29 2 u10 N.size (flatK qae 2 N).toList):=qei E.out (fun g _ hl=>J.block g hl);have P:Hid (wq.ownsRow s.heap.size 124 2 u11 ho.size (flatK qae 2 ho).toList):=qei a6.out (fun g _ hl=>J.block g hl);have H:=hI (qaa M.out J);clear J O p0 p1 p2 p3;have g3:=H.out.size;have x0:=(H.out.cell (p:=⟨b,q + j * 2,none⟩) y.out.1).trans y.out.2.1;have x1:=(H.out.cell (p:=⟨b,q + j * 2 + 1,none⟩) y.out.1).trans y.out.2.2;go_wp2_with (at_builtin;refine vay _ rfl _ _ 23 rfl s.heap.size 29 j0 (.agg #[.int .i64 0,.int .i64 0]) 2 16 underlying23 j8 m6 m7 m8 rfl jd _ _ _ rfl (L.out.alloc _) ⟨wq.heap.size,0,none⟩ 1 1 [.int .i64 x.1,.int .i64 x.2] rfl rfl (qcb wq _ _ _) jV jl jo jso ?_;intro v4 w4 b7 a4 _;have e6:=(P.out.alloc _).kept a4 (qfu P.out L.out jd);have f1:=qes H.out g3 L.out a4;have b4:=hI e6;have n1:=hI f1;have b3:Hid (w4.ownsRow s.heap.size 29 2 v4 (N.push x).size (flatK qae 2 (N.push x)).toList):=(by show w4.ownsRow _ _ _ _ _ _;rw [vbk,qax qar];exact b7);have y0:=(f1.cell (p:=⟨b,q + j * 2,none⟩) y.out.1).trans y.out.2.1;clear b7 a4 e6 f1 x0 x1);have f4:Below s.heap.size s w4:=n1.out;go_wp2_with fail;go_region_held3 (fun D=>Below s.heap.size s D/\D.cell? ⟨b,q + j * 2,none⟩=some (.int .i64 x.1)) (first | assumption | exact u.out _ jN | exact u.out _ (And.left jN) | exact u.out _ (vaq jN) | exact u.out _ (vaq (And.left jN)) | exact u.out _ (qab jN _) | exact u.out _ (qab (And.left jN) _) | exact u.out _ (qab jN _).drew | exact u.out _ (qab (And.left jN) _).drew | exact u.out _ (qab (vaq jN) _) | exact u.out _ (qab (vaq (And.left jN)) _))
      ((refine qai qbd qar jd jr _ _ _ jr s 124 i0 _ 16 underlying64 d6 d7 d8 d9 rfl _ ho jr (by first | exact b4.out.alloc _ | exact (b4.out.alloc _).drew | exact World.ownsRow.alloc b4.out.drew _) _ _ _ _ #[(x.1,x.1)] jr jr (by first | exact qkw _ (x.1,x.1) _ | exact qzk _ (x.1,x.1) _) (fun h=>by cases h) (by first | (simp;done) | (simp;omega)) jd jn ?_;intro v3 w3 F C S;have T:=World.ownsRow.kept (by first | exact b3.out.alloc _ | exact (b3.out.alloc _).drew | exact World.ownsRow.alloc b3.out.drew _) C (qfu b3.out b4.out jd)))
     all_goals
      go_wp2;exact ⟨⟨j + 1,by go_num,by omega,(by rw [a7.out];exact T),(by rw [a2.out];exact F),S⟩,by simp [intOf];omega⟩
    have U:frK ⟨o,rs,ats⟩ x=false:=B.out;rw [U,vao jd] at a7;clear U B;go_wp2_with fail;refine wprX ?_
    repeat (go_big_quiet_step ((first | (go_at_call 94;exact Calls.ext_of (H1.out _)) | (go_at_call 95;exact Calls.ext_same (H2.out _)))))
    refine van ?_;intro wq b8;obtain ⟨⟨W,J⟩,O⟩:=b8;have b9:wq=W:=O;subst b9;have L:Hid (wq.ownsRow s.heap.size 29 2 u10 N.size (flatK qae 2 N).toList):=qei E.out (fun g _ hl=>J.block g hl);have P:Hid (wq.ownsRow s.heap.size 124 2 u11 ho.size (flatK qae 2 ho).toList):=qei a6.out (fun g _ hl=>J.block g hl);have H:=hI (qaa M.out J);clear J O p0 p1 p2 p3;have g3:=H.out.size;have x0:=(H.out.cell (p:=⟨b,q + j * 2,none⟩) y.out.1).trans y.out.2.1;have x1:=(H.out.cell (p:=⟨b,q + j * 2 + 1,none⟩) y.out.1).trans y.out.2.2;have f4:Below s.heap.size s wq:=H.out;go_wp2_with fail;go_region_held3 (fun D=>Below s.heap.size s D/\D.cell? ⟨b,q + j * 2,none⟩=some (.int .i64 x.1)) (first | assumption | exact u.out _ jN | exact u.out _ (And.left jN) | exact u.out _ (vaq jN) | exact u.out _ (vaq (And.left jN)) | exact u.out _ (qab jN _) | exact u.out _ (qab (And.left jN) _) | exact u.out _ (qab jN _).drew | exact u.out _ (qab (And.left jN) _).drew | exact u.out _ (qab (vaq jN) _) | exact u.out _ (qab (vaq (And.left jN)) _))
     ((refine qai qbd qar jd jr _ _ _ jr s 124 i0 _ 16 underlying64 d6 d7 d8 d9 rfl _ ho jr (by first | exact P.out.alloc _ | exact (P.out.alloc _).drew | exact World.ownsRow.alloc P.out.drew _) _ _ _ _ #[(x.1,x.1)] jr jr (by first | exact qkw _ (x.1,x.1) _ | exact qzk _ (x.1,x.1) _) (fun h=>by cases h) (by first | (simp;done) | (simp;omega)) jd jn ?_;intro v3 w3 F C S;have T:=World.ownsRow.kept (by first | exact L.out.alloc _ | exact (L.out.alloc _).drew | exact World.ownsRow.alloc L.out.drew _) C (qfu L.out P.out jd)))
    all_goals
     go_wp2;exact ⟨⟨j + 1,by go_num,by omega,(by rw [a7.out];exact T),(by rw [a2.out];exact F),S⟩,by simp [intOf];omega⟩
   have U:frK ⟨o,rs,ats⟩ x=false:=B.out;rw [U,vao jd] at a7;clear U B;go_wp2_with fail;refine wprX ?_
   repeat (go_big_quiet_step ((first | (go_at_call 94;exact Calls.ext_of (H1.out _)) | (go_at_call 95;exact Calls.ext_same (H2.out _)))))
   refine van ?_;intro wq b8;obtain ⟨⟨W,J⟩,O⟩:=b8;have b9:wq=W:=O;subst b9;have L:Hid (wq.ownsRow s.heap.size 29 2 u10 N.size (flatK qae 2 N).toList):=qei E.out (fun g _ hl=>J.block g hl);have P:Hid (wq.ownsRow s.heap.size 124 2 u11 ho.size (flatK qae 2 ho).toList):=qei a6.out (fun g _ hl=>J.block g hl);have H:=hI (qaa M.out J);clear J O p0 p1 p2 p3;have g3:=H.out.size;have x0:=(H.out.cell (p:=⟨b,q + j * 2,none⟩) y.out.1).trans y.out.2.1;have x1:=(H.out.cell (p:=⟨b,q + j * 2 + 1,none⟩) y.out.1).trans y.out.2.2;have f4:Below s.heap.size s wq:=H.out;go_wp2_with fail;go_region_held3 (fun D=>Below s.heap.size s D/\D.cell? ⟨b,q + j * 2,none⟩=some (.int .i64 x.1)) (first | assumption | exact u.out _ jN | exact u.out _ (And.left jN) | exact u.out _ (vaq jN) | exact u.out _ (vaq (And.left jN)) | exact u.out _ (qab jN _) | exact u.out _ (qab (And.left jN) _) | exact u.out _ (qab jN _).drew | exact u.out _ (qab (And.left jN) _).drew | exact u.out _ (qab (vaq jN) _) | exact u.out _ (qab (vaq (And.left jN)) _))
    ((refine qai qbd qar jd jr _ _ _ jr s 124 i0 _ 16 underlying64 d6 d7 d8 d9 rfl _ ho jr (by first | exact P.out.alloc _ | exact (P.out.alloc _).drew | exact World.ownsRow.alloc P.out.drew _) _ _ _ _ #[(x.1,x.1)] jr jr (by first | exact qkw _ (x.1,x.1) _ | exact qzk _ (x.1,x.1) _) (fun h=>by cases h) (by first | (simp;done) | (simp;omega)) jd jn ?_;intro v3 w3 F C S;have T:=World.ownsRow.kept (by first | exact L.out.alloc _ | exact (L.out.alloc _).drew | exact World.ownsRow.alloc L.out.drew _) C (qfu L.out P.out jd)))
   all_goals
    go_wp2;exact ⟨⟨j + 1,by go_num,by omega,(by rw [a7.out];exact T),(by rw [a2.out];exact F),S⟩,by simp [intOf];omega⟩
  obtain rfl:j=d.size:=by omega
  have e7:¬ (d.size:Int) < (d.size:Int):=by omega
  have i6:=hI (alK_fin HA.out);obtain ⟨N,a8⟩:∃ N,alK ⟨o,rs,ats⟩ d d.size=N:=⟨_,rfl⟩
  rw [a8] at a3 i6 g2;rw [vaz js] at K;have r6:(dblA d.toList).size=d.size:=by simp [dblA]
  clear a8 c0 V;have E:=hI a3;have e2:Hid (wr.ownsRow s.heap.size 124 2 u11 (dblA d.toList ++ dblA (ats.toList.take 0)).size (flatK qae 2 (dblA d.toList ++ dblA (ats.toList.take 0))).toList):=by
   have e:dblA d.toList ++ dblA (ats.toList.take 0)=dblA d.toList:=by simp [dblA]
   show wr.ownsRow _ _ _ _ _ _;rw [e];exact K
  obtain ⟨va,m3⟩:∃ va,u10=va:=⟨_,rfl⟩
  rw [m3] at E |-
  clear a3 K m3;go_wp2
  go_loopw [11,13] (fun vh iv wr=>∃ j:Nat,iv=.int .i64 (j:Int)/\j<=ats.size/\wr.ownsRow s.heap.size 29 2 va N.size (flatK qae 2 N).toList/\wr.ownsRow s.heap.size 124 2 vh (dblA d.toList ++ dblA (ats.toList.take j)).size (flatK qae 2 (dblA d.toList ++ dblA (ats.toList.take j))).toList/\Below s.heap.size s wr) (fun _ iv _=>ats.size - (intOf iv).toNat)
  case atStart=>exact ⟨0,rfl,vaj _,E.out,e2.out,M.out⟩
  case round =>
   clear E e2 M;obtain ⟨j,rfl,hj,a3,K,hB⟩:=hrel;have c0:(dblA d.toList ++ dblA (ats.toList.take j)).size<=d.size + j:=by simp [dblA];omega
   have M:=hI hB;have E:=hI a3;clear hB a3;obtain ⟨⟨k0,k1,k2⟩,_⟩:=blk3 (qak R.out M.out);have Y:w.heap.size < wr.heap.size:=qcj (qak R.out M.out);by_cases V:j < ats.size
   .have jz:(j:Int) < (ats.size:Int):=by omega
    obtain ⟨b,q,rfl,d0,f⟩:=(h8.out.below (qaa Q.out M.out)).at_ V;have e0:=f 0 jo;have I:b < s.heap.size:=vad d0 Q.out.size;have a2:=hI (qru V);obtain ⟨x,hx⟩:∃ x,ats[j]! = x:=⟨_,rfl⟩
    rw [hx] at e0 a2;simp only [vak,qae,vac] at e0;have e4:Hid (dblA d.toList ++ dblA (ats.toList.take (j + 1))=(dblA d.toList ++ dblA (ats.toList.take j)) ++ #[(x.1,x.1)]):=by show _=_;rw [a2.out,Array.append_assoc]
    obtain ⟨ho,a9⟩:∃ ho,dblA d.toList ++ dblA (ats.toList.take j)=ho:=⟨_,rfl⟩
    rw [a9] at K e4 c0;have a6:=hI K;clear f hx K a9 a2;have y:Hid (b < s.heap.size/\s.cell? ⟨b,q + j * 2,none⟩=some (.int .i64 x.1)):=⟨I,(M.out.cell (p:=⟨b,q + j * 2,none⟩) I).symm.trans e0⟩
    have u:Hid (∀ W,Below s.heap.size s W->Below s.heap.size s W/\W.cell? ⟨b,q + j * 2,none⟩=some (.int .i64 x.1)/\W.cell? ⟨w.heap.size,2,none⟩=some (.slice (some ⟨b,q,none⟩) ats.size c2)):=fun W G=>⟨G,(G.cell (p:=⟨b,q + j * 2,none⟩) y.out.1).trans y.out.2,(blk3 (qak R.out G)).1.2.2⟩
    clear I;have f4:Below s.heap.size s wr:=M.out;go_wp2_with fail;go_region_held3 (fun D=>Below s.heap.size s D/\D.cell? ⟨b,q + j * 2,none⟩=some (.int .i64 x.1)/\D.cell? ⟨w.heap.size,2,none⟩=some (.slice (some ⟨b,q,none⟩) ats.size c2)) (first | assumption | exact u.out _ jN | exact u.out _ (And.left jN) | exact u.out _ (vaq jN) | exact u.out _ (vaq (And.left jN)) | exact u.out _ (qab jN _) | exact u.out _ (qab (And.left jN) _) | exact u.out _ (qab jN _).drew | exact u.out _ (qab (And.left jN) _).drew | exact u.out _ (qab (vaq jN) _) | exact u.out _ (qab (vaq (And.left jN)) _))
     ((refine qai qbd qar jd jr _ _ _ jr s 124 i0 _ 16 underlying64 d6 d7 d8 d9 rfl _ ho jr (by first | exact a6.out.alloc _ | exact (a6.out.alloc _).drew | exact World.ownsRow.alloc a6.out.drew _) _ _ _ _ #[(x.1,x.1)] jr jr (by first | exact qkw _ (x.1,x.1) _ | exact qzk _ (x.1,x.1) _) (fun h=>by cases h) (by first | (simp;done) | (simp;omega)) jd jn ?_;intro v3 w3 F C S;have T:=World.ownsRow.kept (by first | exact E.out.alloc _ | exact (E.out.alloc _).drew | exact World.ownsRow.alloc E.out.drew _) C (qfu E.out a6.out jd)))
    all_goals
     go_wp2;exact ⟨⟨j + 1,by go_num,by omega,T,(by rw [e4.out];exact F),S⟩,by simp [intOf];omega⟩
   obtain rfl:j=ats.size:=by omega
   have e7:¬ (ats.size:Int) < (ats.size:Int):=by omega
   rw [vaz js] at K;have f8:(dblA d.toList ++ dblA ats.toList).toList.map (·.1)=qow ⟨o,rs,ats⟩ d:=by
    rw [vet,vdn,qor,qor];rfl
   have f5:∀ z ∈ (dblA d.toList ++ dblA ats.toList).toList,0<=z.1/\z.1<=1000000:=fun z hz=>by
    have h1:=(qbs _ _ _).1 HA.out.up;have h2:=(qbs _ _ _).1 HA.out.chk.up;rw [vet,vbw] at hz;rcases hz with hz | hz
    .obtain ⟨a,ha,rfl⟩:=vcp.1 (show z ∈ d.toList.map (fun a:Int×Int=>(a.1,a.1)) from hz)
     have:=h1.2 a ha
     simp only;omega
    obtain ⟨a,ha,rfl⟩:=vcp.1 (show z ∈ ats.toList.map (fun a:Int×Int=>(a.1,a.1)) from hz)
    have:=h2.2 a ha
    simp only at this |-
    omega
   have q8:(dblA d.toList ++ dblA ats.toList).size=d.size + ats.size:=by simp [dblA]
   generalize dblA d.toList ++ dblA ats.toList=hs at K f8 f5 q8;have n8:=hI f8;have n4:=hI f5;obtain ⟨Ah,ch,rfl,l4,q5⟩:=qaq (enc:=qae) K;have i3:=hI l4;have q7:∀ g,va.ownBlock=some g->s.heap.size<=g:=fun g e=>(E.out.lt g e).1
   obtain ⟨Aa,ca,m4,l3,k3⟩:=qaq (enc:=qae) E.out;have i1:=hI l3;subst m4;have r1:=hI k3;obtain ⟨w6,f0⟩:∃ W,Hid (W=wr):=⟨_,rfl⟩
   rw [<-f0.out] at i3 i1 M;clear K f8 f5 l4 q5 q7 l3 k3 E c0;obtain ⟨w7,b6⟩:∃ W,Hid (W=wr.alloc (.cells #[.int .i64 (max lo o + 1),.int .i64 hi] 124)):=⟨_,rfl⟩
   have e3:Hid (RdK encR 2 w7.heap.size w7 (some ⟨wr.heap.size,0,none⟩) (tlK o lo hi hs 0)):=by
    rw [b6.out,tlK_zero];exact (qzk wr (max lo o + 1,hi) 124).mono js
   have b5:Hid (Below w6.heap.size w6 w7):=by rw [b6.out,f0.out];exact bel1 _ _
   have n3:Hid (Below s.heap.size s w7):=qaa M.out b5.out;clear M;go_wp2
   go_loopw [14,15] (fun vt iv wr=>∃ (j:Nat) (A:Option Addr) (c:Nat),iv=.int .i64 (j:Int)/\j<=hs.size/\vt=.slice A (tlK o lo hi hs j).size c/\RdK encR 2 wr.heap.size wr A (tlK o lo hi hs j)/\(A=none->c=0)/\Below w7.heap.size w7 wr) (fun _ iv _=>hs.size - (intOf iv).toNat)
   case atStart=>exact ⟨0,some ⟨wr.heap.size,0,none⟩,1,rfl,vaj _,rfl,by have:=e3.out;rw [b6.out] at this;exact this,(fun h=>by cases h),by rw [b6.out];exact vag _ _⟩
   case round =>
    clear e3 b6 f0;obtain ⟨j,A,c,rfl,hj,rfl,l7,k6,hB⟩:=hrel;have M:=hI hB;have e9:=hI l7;have o7:=hI k6;have q9:=tlK_size o lo hi hs j;clear hB l7 k6;by_cases V:j < hs.size
    .have jz:(j:Int) < (hs.size:Int):=by omega
     obtain ⟨b,q,rfl,d0,f⟩:=(i3.out.below (qaa b5.out M.out)).at_ V;have e0:=f 0 jo;have m5:=n4.out hs[j]! (by rw [vae hs j V];simp);have HS:=hI (tlK_succ o lo hi V);obtain ⟨z,hz⟩:∃ z,hs[j]!.1=z:=⟨_,rfl⟩
     simp only [vak,qae,vac] at e0;rw [hz] at e0 HS m5;have g1:=wo_any A c (tlK o lo hi hs j) z wr e9.out jo jo;obtain ⟨t2,l9⟩:∃ t2,(woL z (tlK o lo hi hs j).toList).toArray=t2:=⟨_,rfl⟩
     rw [l9] at g1 HS;have q3:=hI g1;clear f hz g1 l9 m5;go_wp2_with fail;refine q3.out.mono ?_;rintro e w8 ⟨v,rfl,a1,j2⟩;obtain ⟨A',c',rfl,k9,j9⟩:=qaq (enc:=encR) a1;have n2:=hI (qaa M.out j2);have p6:=hI k9;have o4:=hI j9;clear a1 j2 k9 j9 e0;go_wp2;exact ⟨⟨j + 1,A',c',by go_num,by omega,by rw [HS.out],by rw [HS.out];exact p6.out,o4.out,n2.out⟩,by simp [intOf];omega⟩
    obtain rfl:j=hs.size:=by omega
    have e7:¬ (hs.size:Int) < (hs.size:Int):=by omega
    have X:=tlK_fin (k:=⟨o,rs,ats⟩) (lo:=lo) (hi:=hi) n8.out;simp only at X;obtain ⟨c4,m0⟩:∃ c4,tlK o lo hi hs hs.size=c4:=⟨_,rfl⟩
    rw [m0] at e9 q9 X |-
    have a0:=hI (qaa n3.out M.out);obtain ⟨⟨k0,k1,k2⟩,_⟩:=blk3 (qak R.out a0.out);have Y:w.heap.size < wr.heap.size:=qcj (qak R.out a0.out);have r0:=a0.out.size;have i8:=hI (uni_any A1 c1 rs A c c4 wr ((p4.out.below (qaa Q.out a0.out)).mono (qaa Q.out a0.out).size) e9.out o2.out o7.out jo (by rw [X];exact qzu HA.out));have q0:=hI X;clear m0 X;go_wp2_with fail;refine i8.out.mono ?_;rintro e w9 ⟨v,Z,rfl,j1,r7,a1,f2⟩;have U:∀ g,v.ownBlock=some g->wr.heap.size<=g:=fun g e=>(a1.lt g e).1
    obtain ⟨Au,cu,rfl,l8,k7⟩:=qaq (enc:=encR) a1;have g9:Hid (IsN (pK ⟨o,rs,ats⟩ lo hi d) Z):=j1.congr fun m=>by rw [q0.out];exact uni_add (k:=⟨o,rs,ats⟩) m
    have d4:decide ((400:Int) < (N.size:Int))=false:=vab jo;have d5:decide ((1000:Int) < (Z.size:Int))=false:=vab jo;have q6:Z.size<=1000:=by omega
    have k8:Z.size<=rs.size + ats.size + d.size + 1:=by omega
    have a5:=hI (qaa a0.out f2);have p9:=hI l8;have o8:=hI k7;have q4:w.heap.size + 1 < s.heap.size:=o0.out;have e5:w.heap.size + 1 < w9.heap.size:=vad q4 a5.out.size;have n6:Hid (∀ g q,Au=some ⟨g,q,none⟩->w.heap.size + 1 < g):=fun g q e=>by
     have:=U g (by rw [e];rfl)
     omega
    obtain ⟨⟨k0,k1,k2⟩,_⟩:=blk3 (qak R.out a5.out);have Y:w.heap.size < w9.heap.size:=qcj (qak R.out a5.out);have i2:Hid (RdK qae 2 w9.heap.size w9 Aa N):=by
     have h:=qaa b5.out (qaa M.out f2);exact (i1.out.below h).mono h.size
    have i7:Hid (∀ W,Below w9.heap.size w9 W->Calls prog 99 #[.slice Aa N.size ca] W fun e D=>∃ A c,e=.returned (.slice A N.size c)/\RdK qae 2 D.heap.size D A (srtA N)/\(A=none->c=0)/\(∀ g q,A=some ⟨g,q,none⟩->w.heap.size + 1 < g)/\Below W.heap.size W D):=fun W G=>rSort_own Aa ca N W (w.heap.size + 1) ((i2.out.below G).mono G.size) jo (vad e5 G.size)
    obtain ⟨pb,g0⟩:∃ pb,preE Z o=pb:=⟨_,rfl⟩
    have n5:Hid (∀ W A n c,Below w9.heap.size w9 W->Calls prog 98 #[.int .i64 o,.slice Au Z.size cu,.slice A n c] W fun e D=>∃ A' o' c',e=.returned (.tuple #[.agg #[.int .i64 pb,.slice A' o'.size c',.slice A n c],.int .i64 0])/\LessE Z (1,pb) o'/\RdK encR 2 D.heap.size D A' o'/\(A'=none->c'=0)/\(0 < o'.size->∀ g q,A'=some ⟨g,q,none⟩->w.heap.size + 1 < g)/\Below W.heap.size W D):=fun W A n c G=>by
     have:=qrt o Au cu Z A n c W ((p9.out.below G).mono G.size) o8.out
     rw [g0] at this;refine this.mono fun e D ⟨A',o',c',h1,h2,h3,h4,h5,h6⟩=>⟨A',o',c',h1,h2,h3,h4,fun h0 g q e=>?_,h6⟩
     rcases h5 h0 g q e with h | ⟨h,_⟩
     .have:=G.size
      omega
     exact n6.out g q (by rw [<-h];exact e)
    have o9:=hI g0;have n7:=hI (qak g7.out a5.out);clear a1 l8 k7 f2 U j1 i8 g0 k1 k2;have u:Hid (∀ W,Below w9.heap.size w9 W->W.cell? ⟨w.heap.size,0,none⟩=some (.int .i64 o)):=fun W G=>(G.cell (p:=⟨w.heap.size,0,none⟩) Y).trans k0
    have KT:Hid (∀ W a b c,Below w9.heap.size w9 W->(((W.setCell ⟨w.heap.size + 1,0,none⟩ a).setCell ⟨w.heap.size + 1,1,none⟩ b).setCell ⟨w.heap.size + 1,2,none⟩ c).cell? ⟨w.heap.size,0,none⟩=some (.int .i64 o)):=fun W a b c G=>by
     have f9:∀ i j,(⟨w.heap.size + 1,i,none⟩:Addr).block≠(⟨w.heap.size,j,none⟩:Addr).block:=fun i j=>by show w.heap.size + 1≠w.heap.size;omega
     rw [World.cell?_setCell_far _ _ _ _ (f9 _ _),World.cell?_setCell_far _ _ _ _ (f9 _ _),World.cell?_setCell_far _ _ _ _ (f9 _ _)];exact u.out W G
    have r3:Below w9.heap.size w9 w9:=vag _ _;go_wp2_with fail;go_region_held3 (fun W=>W.cell? ⟨w.heap.size,0,none⟩=some (.int .i64 o)) (first | with_reducible exact u.out _ jN | with_reducible exact u.out _ (vaq jN) | with_reducible exact KT.out _ _ _ _ jN)
     (first
       | (go_at_call 99;((with_reducible refine (i7.out _ (by first | with_reducible assumption | exact vaq (by with_reducible assumption))).mono ?_);rintro e wa ⟨As,cs,rfl,l6,k5,j6,j3⟩;have p8:=hI l6;have o6:=hI k5;have c6:=hI j6;have r4:Below w9.heap.size w9 wa:=qaa (by first | with_reducible assumption | exact vaq (by with_reducible assumption)) j3;clear l6 k5 j6 j3))
       | (go_at_call 98;((with_reducible refine (n5.out _ _ _ _ (by first | with_reducible assumption | exact vaq (by with_reducible assumption))).mono ?_);rintro e wb ⟨Ao,oo,co,rfl,hL,l5,k4,j5,c9⟩;have o1:=hI hL;have p7:=hI l5;have o5:=hI k4;have c5:=hI j5;have i5:=hI (RdK.next_K p8.out (by first | exact c9 | exact qaa (vaq (vag _ _)) c9));have f3:Below w9.heap.size w9 wb:=qaa (by first | with_reducible assumption | exact vaq (by with_reducible assumption)) c9;obtain ⟨⟨z0,z1,z2⟩,zf⟩:=blk3 (qak n7.out f3);have r5:w.heap.size + 1 < wb.heap.size:=vad e5 f3.size;clear hL l5 k4 j5 c9)))
    all_goals
     go_wp2;refine vau (v:=.tuple #[.agg #[.int .i64 pb,.slice Ao oo.size co,.slice As N.size cs],.int .i64 0]) ?_ rfl ⟨.agg #[.int .i64 pb,.slice Ao oo.size co,.slice As N.size cs],⟨pb,oo,srtA N⟩,rfl,?_,?_,⟨Z,g9.out,k8⟩,?_⟩
     .simp [results,results37,go_sem,z0,z1,z2]
     .refine ⟨Ao,co,As,cs,by rw [show (srtA N).size=N.size from qid N],?_,?_,o5.out,o6.out,fun h0 g q e=>by have:=c5.out h0 g q e;omega,fun g q e=>by have:=c6.out g q e;omega⟩
      .exact (((p7.out.far0 ⟨w.heap.size + 1,0,none⟩ _ (fun h0 g q e=>vds (c5.out h0 g q e))).far0 ⟨w.heap.size + 1,1,none⟩ _ (fun h0 g q e=>vds (c5.out h0 g q e))).far0 ⟨w.heap.size + 1,2,none⟩ _ (fun h0 g q e=>vds (c5.out h0 g q e))).mono js
      exact (((i5.out.far0 ⟨w.heap.size + 1,0,none⟩ _ (fun _ g q e=>vds (c6.out g q e))).far0 ⟨w.heap.size + 1,1,none⟩ _ (fun _ g q e=>vds (c6.out g q e))).far0 ⟨w.heap.size + 1,2,none⟩ _ (fun _ g q e=>vds (c6.out g q e))).mono js
     .exact ⟨Z,g9.out,q6,⟨o9.out.symm,o1.out,i6.out⟩⟩
     exact (((qaa (qaa Q.out a5.out) f3).setCell js _).setCell js _).setCell js _
end
def AddQ (k:KN) (lo hi:Int) (atts:Array (Int×Int)) (r:KN) (c:Int):Prop:=(addB k lo hi atts=false/\r=⟨0,#[],#[]⟩/\c=2)\/(AddA k lo hi atts/\AddR k lo hi atts r/\c=0)
theorem AddQ.uniq {k:KN} {lo hi:Int} {a:Array (Int×Int)} {r s:KN} {c d:Int} (h:AddQ k lo hi a r c) (g:AddQ k lo hi a s d):r=s/\c=d:=by
 rcases h with ⟨e,rfl,rfl⟩ | ⟨e,i,rfl⟩
 .rcases g with ⟨_,rfl,rfl⟩ | ⟨b,_,_⟩
  .exact ⟨rfl,rfl⟩
  rw [qkk.2 b] at e;cases e
 rcases g with ⟨b,_,_⟩ | ⟨_,f,rfl⟩
 .rw [qkk.2 e] at b
  cases b
 exact ⟨i.uniq f,rfl⟩
theorem qzl (k:KN):qra k k=true:=qrb.2 rfl
theorem qpw:(prog.info? 26).map (fun i=>(i.zero,i.size,i.bytes))=some (some (.slice none 0 0),1,24):=by kernel_rfl
theorem qek {α:Type} [Inhabited α] {en:α->List Value} {k:Nat} {w:World} {f:Nat} {e:TypeId} {v:Value} {d:Array α} (h:w.ownsRow f e k v d.size (flatK en k d).toList):∃ x:RW α,v=x.v/\x.z=d/\RdW en k w x:=by
 have p:=h;obtain ⟨A,c,j,m,l⟩:=qaq h;obtain ⟨_,⟨i,r⟩ | ⟨g,n,o,i,_,_,q,_⟩⟩:=p
 .rw [j] at i
  injection i with a b c'
  exact ⟨⟨A,c,d⟩,j,rfl,m,by show d.size<=c;omega,l⟩
 rw [j] at i;injection i with a b c'
 exact ⟨⟨A,c,d⟩,j,rfl,m,by show d.size<=c;omega,l⟩
theorem flat_W {α:Type} [Inhabited α] (z:Array (RW α)):(flatK encW 1 z).toList=z.toList.map RW.v:=by
 apply vec;intro t;rw [vbh];by_cases h:t < z.size
 .have a:t < (flatK encW 1 z).size:=by rw [size_flatK];omega
  have b:=get_flatK encW 1 z t jo;rw [vae _ t a,vfb,Nat.div_one,vae z t h] at b;rw [vbe a,b,vdc,vbh,vbe h];rfl
 rw [vbn (by rw [size_flatK];omega),vbr jso]
theorem qcf {w:World} {d:Nat} {e:TypeId} {v:Value} {l:List Int} (h:w.ownsRow d e 1 v l.length (l.map (Value.int .i64))):∃ x:RW Int,v=x.v/\x.z=l.toArray/\RdJ w x:=by
 have o:=h;obtain ⟨A,f,j,k⟩:=qjf h;have i:v=(⟨A,f,l.toArray⟩:RW Int).v:=by rw [j];simp [RW.v]
 obtain ⟨_,⟨c,q⟩ | ⟨g,m,n,c,_,_,p,_⟩⟩:=o
 .rw [j] at c
  injection c with a b e3
  exact ⟨⟨A,f,l.toArray⟩,i,rfl,⟨k,by show l.toArray.size<=f;simp;omega,fun _=>e3⟩⟩
 rw [j] at c;injection c with a b e3
 exact ⟨⟨A,f,l.toArray⟩,i,rfl,⟨k,by show l.toArray.size<=f;simp;omega,fun h=>by rw [a] at h;cases h⟩⟩
theorem qgb {α:Type} [Inhabited α] {w:World} {a:Nat} {e:TypeId} {v:Value} {z:Array (RW α)} (h:w.ownsRow a e 1 v z.size (z.toList.map RW.v)):∃ x:RW (RW α),v=x.v/\x.z=z/\RdW encW 1 w x :=
 qek (by rw [flat_W];exact h)
theorem qrv {w:World} {a:Nat} {e:TypeId} {v:Value} {l:List Value} {x:Value} (h:w.ownsRow a e 1 v (l.length + 1) (l ++ [x])):w.ownsRow a e 1 v (l ++ [x]).length (l ++ [x]):=by
 simpa using h
theorem qdj {w:World} {b d:Nat} {e:TypeId} {s n:Nat} {v:Value} {i:List Value} (h:w.ownsRow b e s v n i) (l:d<=b):w.ownsRow d e s v n i:=by
 obtain ⟨f,j | ⟨g,a,c,p,k,m,o⟩⟩:=h
 .exact ⟨f,Or.inl j⟩
 exact ⟨f,Or.inr ⟨g,a,c,p,vax l k,m,o⟩⟩
theorem qeh {w W:World} {B s n:Nat} {e:TypeId} {v:Value} {f:List Value} (h:w.ownsRow B e s v n f) (k:Below w.heap.size w W):W.ownsRow B e s v n f:=by
 obtain ⟨c,i | ⟨g,a,b,m,j,d,l⟩⟩:=h
 .exact ⟨c,Or.inl i⟩
 exact ⟨c,Or.inr ⟨g,a,b,m,j,(k.block g (vbm.1 d).1).trans d,l⟩⟩
theorem qdv {w w':World} {B l s q n p:Nat} {e i:TypeId} {v r:Value} {y f:List Value} (h:w.ownsRow B e s v n y) (m:w.ownsRow l i q r p f) (k:e≠i) (u:w.grownBy w' v.ownBlock):w'.ownsRow l i q r p f:=by
 refine m.kept u ?_;obtain ⟨_,⟨rfl,_⟩ | ⟨t,_,_,rfl,_,d,_⟩⟩:=m
 .exact Or.inl rfl
 right
 intro o;obtain ⟨_,⟨rfl,_⟩ | ⟨g,_,_,rfl,_,x,_⟩⟩:=h
 .cases o
 have j:t=g:=by simpa [Value.ownBlock] using o
 subst j;rw [x] at d;injection d with a
 injection a with b c
 exact k c
def cutR (D:Array Int) (n i:Nat):Array Int:=((List.range n).map fun j=>D[i * n + j]!).toArray
def cutZ (b o n:Nat) (D:Array Int):Array (RW Int):=((List.range n).map fun i=>(⟨some ⟨b,o + i * n,none⟩,n,cutR D n i⟩:RW Int)).toArray
theorem qfv (D:Array Int) (n i:Nat):(cutR D n i).size=n:=by simp [cutR]
theorem cutR_at (D:Array Int) (n i:Nat) {j:Nat} (a:j < n):(cutR D n i)[j]! = D[i * n + j]!:=by
 rw [vae _ j (by rw [qfv];exact a)];simp [cutR]
theorem qjt (b o n:Nat) (D:Array Int):(cutZ b o n D).size=n:=by simp [cutZ]
theorem cutZ_at (b o n:Nat) (D:Array Int) {i:Nat} (hi:i < n):(cutZ b o n D)[i]! = ⟨some ⟨b,o + i * n,none⟩,n,cutR D n i⟩:=by
 rw [vae _ i (by rw [qjt];exact hi)];simp [cutZ]
theorem cutZ_v (b o n:Nat) (D:Array Int):(cutZ b o n D).toList.map RW.v=(List.range n).map fun i=>Value.slice (some ⟨b,o + i * n,none⟩) n n:=by
 unfold cutZ;simp only [List.map_map];refine List.map_congr_left fun i _=>?_
 show Value.slice _ (cutR D n i).size n=_;rw [qfv]
def RdMM (w:World) (x:RW (RW Int)):Prop:=RdW encW 1 w x/\∀ i,i < x.z.size->RdJ w x.z[i]!
theorem RdMM.below {w w':World} {x:RW (RW Int)} (h:RdMM w x) (a:Below w.heap.size w w'):RdMM w' x:=⟨h.1.below a,fun i b=>(h.2 i b).below a⟩
theorem cutZ_rd {b o n:Nat} {D:Array Int} {W:World} (e:b < W.heap.size) (h:∀ t,t < n * n->W.cell? ⟨b,o + t,none⟩=some (.int .i64 D[t]!)):∀ i,i < n->RdJ W (cutZ b o n D)[i]!:=by
 intro i d;rw [cutZ_at _ _ _ _ d];refine ⟨fun _=>⟨b,o + i * n,rfl,e,fun j f=>?_⟩,by show (cutR D n i).size<=n;rw [qfv];exact vaa _,fun h=>by cases h⟩;have a:j < n:=by rwa [show (RW.mk (some (⟨b,o + i * n,none⟩:Addr)) n (cutR D n i)).z=cutR D n i from rfl,qfv] at f
 have c:(i + 1) * n<=n * n:=vce n d;rw [vdx] at c;rw [vdl,h _ jo];show _=some (Value.int .i64 (cutR D n i)[j]!);rw [cutR_at _ _ _ a]
def NewM (k:Nat) (z:Array (RW Int)):Prop:=z.size=k/\∀ i,i < k->z[i]!.z=(List.replicate k 0).toArray
theorem cut_any (b o c n:Nat) (w:World) (K:n<=100) (F:n * n<=c) (l:c<=maxLen) :
 Calls prog 163 #[.slice (some ⟨b,o,none⟩) (n * n) c,.int .i64 n] w fun e B=>∃ v,e=.returned v/\B.ownsRow w.heap.size 26 1 v n ((List.range n).map fun i=>.slice (some ⟨b,o + i * n,none⟩) n n)/\Below w.heap.size w B:=by
 obtain ⟨H,m,r,s,t⟩:=vbo qpw;obtain ⟨N,j⟩:∃ N,n * n=N:=⟨_,rfl⟩
 have C:=hI j;rw [j] at F |-
 clear j;go_in;go_wp2
 go_loopw [5,8] (fun v i wr=>∃ (k:Nat) (L:List Value),i=.int .i64 k/\k<=n/\L.length=k/\Hid (L=(List.range k).map fun i=>Value.slice (some ⟨b,o + i * n,none⟩) n n)/\wr.ownsRow w.heap.size 26 1 v L.length L/\Hid (Below w.heap.size w wr)) (fun _ i _=>n - (intOf i).toNat)
 case atStart=>exact ⟨0,[],rfl,vaj _,rfl,rfl,vcj _ _ _ _,vag _ _⟩
 case round =>
  obtain ⟨k,L,rfl,J,y,u,a,h⟩:=hrel;by_cases q:k < n
  .have M:(k:Int) < (n:Int):=by omega
   obtain ⟨p,g⟩:∃ p,k * n=p:=⟨_,rfl⟩
   have A:(k + 1) * n=p + n:=by rw [vdx,g]
   have G:p + n<=N:=by rw [<-A,<-C.out];exact vce n q
   have I:(k:Int) * (n:Int)=(p:Int):=by rw [<-g];simp
   have O:((k:Int) + 1) * (n:Int)=((p + n:Nat):Int):=by rw [Int.add_mul,I];omega
   have D:Hid (((List.range (k + 1)).map fun i=>Value.slice (some ⟨b,o + i * n,none⟩) n n)=L ++ [.slice (some ⟨b,o + p,none⟩) n n]):=by
    show _=_;rw [List.range_succ,vdn,<-u.out,<-g];rfl
   have E:=h.out.size;have x:c<=9223372036854775807:=l;have P:((p:Int) + (n:Int)).toNat=p + n:=by omega
   have Q:p + n - p=n:=by omega
   have R:¬ (p + n=p):=by omega
   have S:(p:Int) + (n:Int)<=(c:Int):=by omega
   clear g A;go_wp2_with (at_builtin;refine vay _ rfl _ _ 25 rfl w.heap.size 26 H (.slice none 0 0) 1 24 underlying25 m r s t rfl jd _ _ _ rfl (World.ownsRow.alloc a _) ⟨wr.heap.size,0,none⟩ 1 1 [.slice (some ⟨b,o + p,none⟩) n n] rfl rfl (qdr _ _ _) jV jl jo jso ?_;intro T U f d _);go_roundw
   case rel=>exact ⟨k + 1,L ++ [.slice (some ⟨b,o + p,none⟩) n n],by go_num,by omega,by simp [y],hI D.out.symm,qrv f,hI (qcr h.out a d)⟩
   case measure=>simp [intOf];omega
  have z:decide ((k:Int) < (n:Int))=false:=vab jo;obtain rfl:k=n:=by omega
  go_wp2;go_ret;exact ⟨_,rfl,by rw [<-u.out,<-y];exact a,h.out⟩
theorem cut_made {b o n B:Nat} {W:World} {v:Value} (D:Array Int) (a:W.ownsRow B 26 1 v n ((List.range n).map fun i=>Value.slice (some ⟨b,o + i * n,none⟩) n n)) (f:b < W.heap.size) (g:∀ t,t < n * n->W.cell? ⟨b,o + t,none⟩=some (.int .i64 D[t]!)):∃ x:RW (RW Int),v=x.v/\x.z=cutZ b o n D/\RdMM W x:=by
 rw [<-cutZ_v b o n D] at a;obtain ⟨x,e,d,h⟩:=qgb (z:=cutZ b o n D) (by rw [qjt];exact a);refine ⟨x,e,d,h,fun i c=>?_⟩;rw [d] at c |-
 rw [qjt] at c;exact cutZ_rd f g i c
def OwnMM (B:Nat) (w:World) (x:RW (RW Int)):Prop:=∀ W,(∀ j,B<=j->j < w.heap.size->W.heap[j]?=w.heap[j]?)->w.heap.size<=W.heap.size->RdMM W x
theorem qdz {w W:World} {B B0 s n:Nat} {e:TypeId} {v:Value} {f:List Value} (h:w.ownsRow B e s v n f) (p:B0<=B) (l:∀ j,B0<=j->j < w.heap.size->W.heap[j]?=w.heap[j]?):W.ownsRow B e s v n f:=by
 obtain ⟨c,i | ⟨g,a,b,o,k,d,m⟩⟩:=h
 .exact ⟨c,Or.inl i⟩
 exact ⟨c,Or.inr ⟨g,a,b,o,k,(l g jo (vbm.1 d).1).trans d,m⟩⟩
theorem cut_own {b o n B B0:Nat} {w:World} {v:Value} (D:Array Int) (c:w.ownsRow B 26 1 v n ((List.range n).map fun i=>Value.slice (some ⟨b,o + i * n,none⟩) n n)) (r:B0<=B) (s:b < w.heap.size) (g:B0<=b) (u:∀ t,t < n * n->w.cell? ⟨b,o + t,none⟩=some (.int .i64 D[t]!)):∃ x:RW (RW Int),v=x.v/\x.z=cutZ b o n D/\OwnMM B0 w x:=by
 have d:∀ W:World,(∀ j,B0<=j->j < w.heap.size->W.heap[j]?=w.heap[j]?)->w.heap.size<=W.heap.size->∃ x:RW (RW Int),v=x.v/\x.z=cutZ b o n D/\RdMM W x:=fun W f m =>
  cut_made D (qdz c r f) jo (fun t A=>by rw [vdf (w:=w) (a:=⟨b,o + t,none⟩) (f b g s)];exact u t A)
 obtain ⟨x,e,p,_⟩:=d w (fun _ _ _=>rfl) (vaa _);refine ⟨x,e,p,fun W f m=>?_⟩;obtain ⟨y,q,k,z⟩:=d W f m
 have:x=y:=by
  obtain ⟨F,G,C⟩:=x;obtain ⟨H,I,E⟩:=y;have h:C=E:=p.trans k.symm;have l:=e.symm.trans q;unfold RW.v at l;injection l with q1 q2 q3
  subst h q1 q3;rfl
 rw [this];exact z
def zs (k:Nat):List Int:=List.replicate k 0
theorem zs_len (k:Nat):(zs k).length=k:=by simp [zs]
theorem zs_succ (k:Nat):zs (k + 1)=zs k ++ [0]:=List.replicate_succ'
def OwnZ (B:Nat) (W:World) (v:Value) (k:Nat):Prop:=∃ L:List Value,L.length=k/\W.ownsRow B 26 1 v L.length L/\∀ u ∈ L,W.ownsRow B 3 1 u (zs k).length ((zs k).map (Value.int .i64))
theorem OwnZ.same {B:Nat} {w W:World} {v:Value} {k:Nat} (h:OwnZ B w v k) (a:∀ j,B<=j->j < w.heap.size->W.heap[j]?=w.heap[j]?):OwnZ B W v k:=by
 obtain ⟨L,d,b,c⟩:=h;exact ⟨L,d,qdz b (vaa _) a,fun u e=>qdz (c u e) (vaa _) a⟩
theorem OwnZ.rd {B:Nat} {W:World} {v:Value} {k:Nat} (h:OwnZ B W v k):∃ x:RW (RW Int),v=x.v/\NewM k x.z/\RdMM W x:=by
 obtain ⟨L,n,o,p⟩:=h;have q:∀ i,i < k->∃ x:RW Int,L[i]?=some x.v/\x.z=(List.replicate k 0).toArray/\RdJ W x:=fun i a=>by
  have d:i < L.length:=by omega
  obtain ⟨x,e,g,l⟩:=qcf (p L[i] (List.getElem_mem d));exact ⟨x,by rw [vbl d,e],g,l⟩
 obtain ⟨f,j⟩:=Go.Deep.choose_lt q;have c:((List.range k).map f).toArray.size=k:=by simp
 have b:∀ i,i < k->((List.range k).map f).toArray[i]! = f i:=fun i a=>by simp [a]
 have m:((List.range k).map f).toArray.toList.map RW.v=L:=by
  apply vec;intro i;rcases val i k with a | a
  .rw [(j i a).1]
   simp [a]
  rw [vbr (by simpa using a),vbr jo]
 obtain ⟨x,e,g,l⟩:=qgb (z:=((List.range k).map f).toArray) (by rw [m,c,<-n];exact o);refine ⟨x,e,?_,l,fun i a=>?_⟩
 .rw [g]
  exact ⟨c,fun i a=>by rw [b i a];exact (j i a).2.1⟩
 rw [g] at a |-
 rw [c] at a;rw [b i a];exact (j i a).2.2
theorem rSwNew_ok (k:Nat) (w:World) (h3:3<=k) (h9:k<=9):Calls prog 60 #[.int .i64 k] w fun e O=>(∃ v,e=.returned (.tuple #[v,.int .i64 0])/\OwnZ w.heap.size O v k)/\Below w.heap.size w O:=by
 obtain ⟨Y,E,J,K,M⟩:=vbo qpw;obtain ⟨Z,F,G,H,I⟩:=vbo qcc;have e1:decide ((k:Int) < 3)=false:=vab jo;have e2:decide (9 < (k:Int))=false:=vab jo;go_in;go_wp2
 go_loopw [4,5] (fun v i wr=>∃ (j:Nat) (L:List Value),i=.int .i64 j/\j<=k/\L.length=j/\wr.ownsRow w.heap.size 26 1 v L.length L/\Hid (∀ u ∈ L,wr.ownsRow w.heap.size 3 1 u (zs k).length ((zs k).map (Value.int .i64)))/\Hid (Below w.heap.size w wr)) (fun _ i _=>k - (intOf i).toNat)
 case atStart=>exact ⟨0,[],rfl,vaj _,rfl,vcj _ _ _ _,hI (fun u o=>by cases o),hI (vag _ _)⟩
 case round =>
  obtain ⟨j,L,rfl,hj,N,g,B,x⟩:=hrel;by_cases V:j < k
  .have kz:(j:Int) < (k:Int):=by omega
   have D:=x.out.size;go_wp2;obtain ⟨y,rfl⟩:∃ W,W=wr:=⟨_,rfl⟩
   go_loopw [6,7] (fun r m P=>∃ p:Nat,m=.int .i64 p/\p<=k/\P.ownsRow y.heap.size 3 1 r (zs p).length ((zs p).map (Value.int .i64))/\Hid (Below y.heap.size y P)) (fun _ m _=>k - (intOf m).toNat)
   case atStart=>exact ⟨0,rfl,vaj _,vcj _ _ _ _,hI (vag _ _)⟩
   case round =>
    obtain ⟨p,rfl,hp,f,q⟩:=hrel;have T:=q.out.size;by_cases U:p < k
    .have pz:(p:Int) < (k:Int):=by omega
     have X:=zs_len p;go_wp2_with (at_builtin;refine vay _ rfl _ _ 26 rfl y.heap.size 3 Z (.int .i64 0) 1 8 underlying26 F G H I rfl jd _ _ _ rfl (World.ownsRow.alloc f _) ⟨wr.heap.size,0,none⟩ 1 1 [.int .i64 0] rfl rfl (qdr _ _ _) jV jl jo jso ?_;intro v' w3 b a _);go_roundw
     case rel=>exact ⟨p + 1,by go_num,by omega,by rw [zs_succ];exact qir b,hI (qcr q.out f a)⟩
     case measure=>simp [intOf];omega
    have s:decide ((p:Int) < (k:Int))=false:=vab jo;obtain rfl:p=k:=by omega
    have d:=qeh g q.out;have l:=qdj f D;obtain ⟨S,un,uc,rfl⟩:∃ A n c,u6=Value.slice A n c:=by
     obtain ⟨_,⟨e,_⟩ | ⟨_,_,_,e,_⟩⟩:=l
     .exact ⟨_,_,_,e⟩
     exact ⟨_,_,_,e⟩
    have C:=hI (fun u o=>qeh (B.out u o) q.out);have z:=hI (qaa x.out q.out);clear B x q g f;go_wp2_with (at_builtin;refine vay _ rfl _ _ 25 rfl w.heap.size 26 Y (.slice none 0 0) 1 24 underlying25 E J K M rfl jd _ _ _ rfl (World.ownsRow.alloc d _) ⟨wr.heap.size,0,none⟩ 1 1 [.slice S un uc] rfl rfl (qdr _ _ _) jV jl jo jso ?_;intro v' w3 b a _);have t:(26 : TypeId)≠3:=by decide
    have Q:=hI (qdv (d.alloc _) (l.alloc _) t a);have R:=hI (fun u o=>qdv (d.alloc _) ((C.out u o).alloc _) t a);go_roundw
    case rel =>
     refine ⟨j + 1,L ++ [_],by go_num,by omega,by simp [N],qrv b,hI (fun u o=>?_),hI (qcr z.out d a)⟩;rcases vbw.1 o with h | h
     .exact R.out u h
     rw [vco.1 h];exact Q.out
    case measure=>simp [intOf];omega
  have s:decide ((j:Int) < (k:Int))=false:=vab jo;obtain rfl:j=k:=by omega
  go_wp2;go_ret2;exact ⟨⟨_,rfl,L,N,g,B.out⟩,x.out⟩
section
def stA (k:KN) (ids:Array Int) (j:Nat):Array (Int×Int):=((k.ats.toList.take j).filter fun a=>!qds ids a).toArray
def moA (k:KN) (ids:Array Int) (j:Nat):Array (Int×Int):=(((k.ats.toList.take j).filter (qds ids)).map fun a=>(a.1,a.1)).toArray
theorem stA_succ {k:KN} {ids:Array Int} {j:Nat} (a:j < k.ats.size):stA k ids (j + 1)=if qds ids k.ats[j]! then stA k ids j else (stA k ids j).push k.ats[j]!:=by
 unfold stA;rw [qcv a,vdq];cases h:qds ids k.ats[j]! <;> simp [h]
theorem moA_succ {k:KN} {ids:Array Int} {j:Nat} (a:j < k.ats.size):moA k ids (j + 1)=if qds ids k.ats[j]! then moA k ids j ++ #[(k.ats[j]!.1,k.ats[j]!.1)] else moA k ids j:=by
 unfold moA;rw [qcv a,vdq];cases h:qds ids k.ats[j]! <;> simp [h]
theorem stA_size (k:KN) (ids:Array Int) (j:Nat):(stA k ids j).size<=k.ats.size:=by
 unfold stA;have b:=vcf (fun a=>!qds ids a) (k.ats.toList.take j);have c:=List.length_take_le j k.ats.toList;have d:=List.length_take_le' j k.ats.toList;simp at b c d |-
 omega
theorem moA_size (k:KN) (ids:Array Int) (j:Nat):(moA k ids j).size<=k.ats.size:=by
 unfold moA;have a:=vcf (qds ids) (k.ats.toList.take j);have b:=List.length_take_le' j k.ats.toList;simp at a b |-
 omega
theorem stA_fin (k:KN) (ids:Array Int):stA k ids k.ats.size=qfj k ids:=by unfold stA qfj;rw [vaz js]
theorem moA_fin (k:KN) (ids:Array Int):moA k ids k.ats.size=qjq k ids:=by unfold moA qjq;rw [vaz js]
theorem cont_succ {ids:Array Int} {m:Nat} (a:m < ids.size) (y:Int):(ids.toList.take (m + 1)).contains y=((ids.toList.take m).contains y || (ids[m]! == y)):=by
 rw [vdb];have e:ids.toList[m]?=some ids[m]!:=by rw [vae ids m a];simp [a]
 rw [e,vbd];simp only [Option.toList_some,vct,vbw,vco,vcd,vef]
 constructor
 .rintro (h | h)
  .exact Or.inl h
  exact Or.inr h.symm
 rintro (h | h)
 .exact Or.inl h
 exact Or.inr h.symm
attribute [local go_sem ↓] Go.wp_at_zero Go.wp_at_succ
theorem qzm (a:Int) (rs ats:Array (Int×Int)) (A1:Option Addr) (c1:Nat) (A2:Option Addr) (c2:Nat) (ids:Array Int) (A3:Option Addr) (c3:Nat) (w:World) (h1:RdK encR 2 w.heap.size w A1 rs) (h2:RdK qae 2 w.heap.size w A2 ats) (h3:RdI_R w.heap.size w A3 ids) (m1:A1=none->c1=0)
 (hP:ChkP ⟨a,rs,ats⟩) (s1:rs.size<=500) (s3:ids.size<=100000) :
 Calls prog 108 #[.agg #[.int .i64 a,.slice A1 rs.size c1,.slice A2 ats.size c2],.slice A3 ids.size c3] w fun e w'=>∃ v r,e=.returned v/\KnG w.heap.size w' v r/\SetR ⟨a,rs,ats⟩ ids r/\Below w.heap.size w w':=by
 obtain ⟨i0,g5,h4,h5,h6⟩:=vbo qda;obtain ⟨j0,g6,h8,h9,i1⟩:=vbo qfq;have HC:Hid (∀ W,Below w.heap.size w W->Calls prog 92 #[.agg #[.int .i64 a,.slice A1 rs.size c1,.slice A2 ats.size c2]] W fun e w'=>e=.returned (.int .i64 0)/\Below W.heap.size W w'):=fun W Y=>by
  have:=qfp a rs ats A1 c1 A2 c2 W ((h1.below Y).mono Y.size) ((h2.below Y).mono Y.size)
  unfold chkE at this
  rwa [vam (qco.2 hP)] at this
 have HT:=hI (qhu w (.cells #[.int .i64 a,.slice A1 rs.size c1,.slice A2 ats.size c2] 66) (.cells #[.int .i64 0,.slice none 0 0,.slice none 0 0] 66));have f7:=hI h1;have f8:=hI h2;have f9:=hI h3;have f1:=hI m1;have HP:=hI hP;have s2:=hP.sz;simp only at s2;clear h1 h2 h3 m1 hP;go_in;go_wp2_with fail;refine (HC.out _ (qab (bel1 w _) _)).mono ?_;rintro e d ⟨rfl,P⟩;have C:=hI (qaa (qab (bel1 w _) _) P);have D:=hI (qak HT.out.1 P);have b1:=hI (qak HT.out.2 P);have a1:Hid (w.heap.size + 1 < d.heap.size):=qcj b1.out;clear P HC HT;go_wp2
 go_loopw [5,6,7] (fun vs vm iv wr=>∃ j:Nat,iv=.int .i64 (j:Int)/\j<=ats.size/\wr.ownsRow d.heap.size 29 2 vs (stA ⟨a,rs,ats⟩ ids j).size (flatK qae 2 (stA ⟨a,rs,ats⟩ ids j)).toList/\wr.ownsRow d.heap.size 124 2 vm (moA ⟨a,rs,ats⟩ ids j).size (flatK qae 2 (moA ⟨a,rs,ats⟩ ids j)).toList/\Below d.heap.size d wr) (fun _ _ iv _=>ats.size - (intOf iv).toNat)
 case atStart=>exact ⟨0,rfl,vaj _,qbk _ _ _ _ _,qbk _ _ _ _ _,vag _ _⟩
 case round =>
  obtain ⟨j,rfl,hj,n,q,hB⟩:=hrel;have V:=stA_size ⟨a,rs,ats⟩ ids j;have U:=moA_size ⟨a,rs,ats⟩ ids j;simp only at V U;have H:=hI hB;obtain ⟨⟨k0,k1,k2⟩,_⟩:=blk3 (qak D.out H.out);clear hB;by_cases a4:j < ats.size
  .have jz:(j:Int) < (ats.size:Int):=by omega
   obtain ⟨b,c,rfl,g4,f⟩:=(f8.out.below (qaa C.out H.out)).at_ a4;have e0:=f 0 jo;have e1:=f 1 jo;have A:b < d.heap.size:=vad g4 C.out.size;have u:=hI (stA_succ (k:=⟨a,rs,ats⟩) (ids:=ids) a4);have t:=hI (moA_succ (k:=⟨a,rs,ats⟩) (ids:=ids) a4);obtain ⟨x,hx⟩:∃ x,ats[j]! = x:=⟨_,rfl⟩
   simp only [hx] at e0 e1 u t;simp only [vak,qae,vac,vaf] at e0 e1;obtain ⟨st,a0⟩:∃ st,stA ⟨a,rs,ats⟩ ids j=st:=⟨_,rfl⟩
   obtain ⟨mo,Z⟩:∃ mo,moA ⟨a,rs,ats⟩ ids j=mo:=⟨_,rfl⟩
   rw [a0] at n u V;rw [Z] at q t U;have g2:=hI n;have f2:=hI q;have o:Hid (b < d.heap.size/\d.cell? ⟨b,c + j * 2,none⟩=some (.int .i64 x.1)/\d.cell? ⟨b,c + j * 2 + 1,none⟩=some (.int .i64 x.2)):=⟨A,(H.out.cell (p:=⟨b,c + j * 2,none⟩) A).symm.trans e0,(H.out.cell (p:=⟨b,c + j * 2 + 1,none⟩) A).symm.trans e1⟩
   have L:Hid (∀ W,Below d.heap.size d W->Below d.heap.size d W/\W.cell? ⟨b,c + j * 2,none⟩=some (.int .i64 x.1)/\W.cell? ⟨w.heap.size,2,none⟩=some (.slice (some ⟨b,c,none⟩) ats.size c2)):=fun W Y=>⟨Y,(Y.cell (p:=⟨b,c + j * 2,none⟩) o.out.1).trans o.out.2.1,(blk3 (qak D.out Y)).1.2.2⟩
   obtain ⟨w2,F⟩:∃ W,Hid (W=wr):=⟨wr,rfl⟩
   have b5:Hid (w2.ownsRow d.heap.size 29 2 u5 st.size (flatK qae 2 st).toList):=by rw [F.out];exact n
   have b2:Hid (w2.ownsRow d.heap.size 124 2 u6 mo.size (flatK qae 2 mo).toList):=by rw [F.out];exact q
   have e6:Hid (Below d.heap.size d w2):=by rw [F.out];exact H.out
   clear f hx n q a0 Z A g2 f2 H e0 e1;go_wp2_with fail
   go_loopw [8,9] (fun dv jv wi=>∃ m:Nat,jv=.int .i64 (m:Int)/\m<=ids.size/\dv=.bool ((ids.toList.take m).contains x.2)/\wi.heap=w2.heap/\Below d.heap.size d wi) (fun _ jv _=>ids.size - (intOf jv).toNat)
   case atStart=>exact ⟨0,rfl,vaj _,rfl,by rw [F.out],by have:=e6.out;rw [F.out] at this;exact this⟩
   case round =>
    clear k0 k1 k2 F;obtain ⟨m,rfl,hm,rfl,hq,a2⟩:=hrel;obtain ⟨wi,e4⟩:∃ W,wr=W:=⟨_,rfl⟩
    rw [e4] at hq a2 |-
    clear e4;have z:Hid (wi.ownsRow d.heap.size 29 2 u5 st.size (flatK qae 2 st).toList):=qei b5.out fun g _ _=>by rw [hq]
    have E:Hid (wi.ownsRow d.heap.size 124 2 u6 mo.size (flatK qae 2 mo).toList):=qei b2.out fun g _ _=>by rw [hq]
    have l:=hI a2;have HQ:=hI hq;clear hq a2;by_cases c8:m < ids.size
    .have mz:(m:Int) < (ids.size:Int):=by omega
     obtain ⟨⟨k0,k1,k2⟩,_⟩:=blk3 (qak D.out l.out);have x1:=(l.out.cell (p:=⟨b,c + j * 2 + 1,none⟩) o.out.1).trans o.out.2.2;obtain ⟨bi,oi,rfl,_,g⟩:=(f9.out.below (qaa C.out l.out)) jo;have y0:=g m c8;have s:=hI (cont_succ c8 x.2);obtain ⟨y,hy⟩:∃ y,ids[m]! = y:=⟨_,rfl⟩
     rw [hy] at y0 s;clear g hy;obtain ⟨cc,b9⟩:∃ cc,(ids.toList.take m).contains x.2=cc:=⟨_,rfl⟩
     rw [b9] at s |-
     clear b9;cases cc
     .rw [Bool.false_or] at s
      obtain ⟨yy,g9⟩:∃ yy,(y == x.2)=yy:=⟨_,rfl⟩
      rw [g9] at s;go_wp2_with fail;go_quiet (fail);go_wp2;exact ⟨⟨m + 1,by go_num,by omega,by rw [s.out],HQ.out,qaj l.out _⟩,by simp [intOf];omega⟩
     rw [Bool.true_or] at s;go_wp2_with fail;go_quiet (fail);go_wp2;exact ⟨⟨m + 1,by go_num,by omega,by rw [s.out],HQ.out,qaj l.out _⟩,by simp [intOf];omega⟩
    obtain rfl:m=ids.size:=by omega
    have i3:¬ (ids.size:Int) < (ids.size:Int):=by omega
    have c4:(ids.toList.take ids.size).contains x.2=qds ids x:=by rw [vaz js];rfl
    rw [c4];clear c4;obtain ⟨dn,c0⟩:∃ dn,qds ids x=dn:=⟨_,rfl⟩
    rw [c0] at u t |-
    clear c0;cases dn
    .rw [vao jd] at u t
     obtain ⟨⟨k0,k1,k2⟩,_⟩:=blk3 (qak D.out l.out);have x0:=(l.out.cell (p:=⟨b,c + j * 2,none⟩) o.out.1).trans o.out.2.1;have x1:=(l.out.cell (p:=⟨b,c + j * 2 + 1,none⟩) o.out.1).trans o.out.2.2;have h7:=l.out.size;go_wp2_with (at_builtin;refine vay _ rfl _ _ 23 rfl d.heap.size 29 j0 (.agg #[.int .i64 0,.int .i64 0]) 2 16 underlying23 g6 h8 h9 i1 rfl jd _ _ _ rfl (z.out.alloc _) ⟨wi.heap.size,0,none⟩ 1 1 [.int .i64 x.1,.int .i64 x.2] rfl rfl (qcb wi _ _ _) jV jl jo jso ?_;intro v4 w4 a7 B _;have c9:=(E.out.alloc _).kept B (qfu E.out z.out jd);have J:=qes l.out h7 z.out B);exact ⟨⟨j + 1,by go_num,by omega,(by rw [u.out,vbk,qax qar];exact a7),(by rw [t.out];exact c9),J⟩,by simp [intOf];omega⟩
    rw [vam rfl] at u t;have i4:Below d.heap.size d wi:=l.out;go_wp2_with fail;go_region_held3 (fun w'=>Below d.heap.size d w'/\w'.cell? ⟨b,c + j * 2,none⟩=some (.int .i64 x.1)/\w'.cell? ⟨w.heap.size,2,none⟩=some (.slice (some ⟨b,c,none⟩) ats.size c2)) (first | assumption | exact L.out _ jN | exact L.out _ (And.left jN) | exact L.out _ (vaq jN) | exact L.out _ (vaq (And.left jN)) | exact L.out _ (qab jN _) | exact L.out _ (qab (And.left jN) _) | exact L.out _ (qab jN _).drew | exact L.out _ (qab (And.left jN) _).drew | exact L.out _ (qab (vaq jN) _) | exact L.out _ (qab (vaq (And.left jN)) _))
     ((refine qai qbd qar jd jr _ _ _ jr d 124 i0 _ 16 underlying64 g5 h4 h5 h6 rfl _ mo jr (by first | exact E.out.alloc _ | exact (E.out.alloc _).drew | exact World.ownsRow.alloc E.out.drew _) _ _ _ _ #[(x.1,x.1)] jr jr (by first | exact qkw _ (x.1,x.1) _ | exact qzk _ (x.1,x.1) _) (fun h=>by cases h) (by first | (simp;done) | (simp;omega)) jd jn ?_;intro v3 w3 a6 R b7;have e3:=World.ownsRow.kept (by first | exact z.out.alloc _ | exact (z.out.alloc _).drew | exact World.ownsRow.alloc z.out.drew _) R (qfu z.out E.out jd)))
    all_goals
     go_wp2;exact ⟨⟨j + 1,by go_num,by omega,(by rw [u.out];exact e3),(by rw [t.out];exact a6),b7⟩,by simp [intOf];omega⟩
  obtain rfl:j=ats.size:=by omega
  have i2:¬ (ats.size:Int) < (ats.size:Int):=by omega
  have a9:=stA_fin ⟨a,rs,ats⟩ ids;have a5:=moA_fin ⟨a,rs,ats⟩ ids;simp only at a9 a5;rw [a9] at n V;rw [a5] at q U;have g8:=(rfl:qfj ⟨a,rs,ats⟩ ids=qfj ⟨a,rs,ats⟩ ids)
  have S:=qzv (ids:=ids) HP.out;have T:=fun m=>uni_set (k:=⟨a,rs,ats⟩) (ids:=ids) m
  simp only at S T;generalize qjq ⟨a,rs,ats⟩ ids=e5 at q U S T;obtain ⟨i,b0⟩:∃ i,qfj ⟨a,rs,ats⟩ ids=i:=⟨_,rfl⟩
  rw [b0] at n V;have g3:=hI b0;have e2:∀ g,u5.ownBlock=some g->d.heap.size<=g:=fun g e=>(n.lt g e).1
  obtain ⟨As,cs,rfl,d8,d2⟩:=qaq (enc:=qae) n;obtain ⟨Am,cm,rfl,d6,d0⟩:=qaq (enc:=qae) q;have g1:=hI d8;have f4:=hI d2;have N:Hid (∀ g c,As=some ⟨g,c,none⟩->w.heap.size + 1 < g):=fun g c e=>by
   have h1:=e2 g (by rw [e];rfl);have h2:=a1.out;omega
  have i5:=qcj (qak D.out H.out);have i7:=H.out.size;have b6:=hI (uni_any A1 c1 rs Am cm e5 wr ((f7.out.below (qaa C.out H.out)).mono (qaa C.out H.out).size) d6 f1.out d0 jo S);have f6:=hI T;clear n q a9 a5 b0 g8 e2 d8 d2 d6 d0 S T;go_wp2_with fail;refine b6.out.mono ?_;rintro e w4 ⟨v,G,rfl,b8,i6,K,J⟩;have c5:∀ g,v.ownBlock=some g->wr.heap.size<=g:=fun g e=>(K.lt g e).1
  obtain ⟨Au,cu,rfl,d9,d3⟩:=qaq (enc:=encR) K;have e9:Hid (IsN (pS ⟨a,rs,ats⟩ ids) G):=b8.congr fun m=>f6.out m
  have d5:decide ((1000:Int) < (G.size:Int))=false:=vab jo;have g7:G.size<=1000:=by omega
  have I:=hI (qaa H.out J);have b3:=hI (g1.out.next_K J);have e8:Hid (∀ g c,Au=some ⟨g,c,none⟩->w.heap.size + 1 < g):=fun g c e=>by
   have h1:=c5 g (by rw [e];rfl);have h2:=a1.out;omega
  obtain ⟨pb,a8⟩:∃ pb,preE G a=pb:=⟨_,rfl⟩
  have a3:=qrt a Au cu G As i.size cs w4 d9 d3;rw [a8] at a3;have e7:=hI a3;have f5:=hI a8;obtain ⟨⟨k0,k1,k2⟩,_⟩:=blk3 (qak D.out I.out);have c6:w.heap.size + 1 < w4.heap.size:=vad a1.out I.out.size;clear b8 K J c5 d9 d3 a3 a8 b6;go_wp2_with fail;refine e7.out.mono ?_;rintro e w5 ⟨Ao,oo,co,rfl,hL,d7,d1,d4,Q⟩;have f0:=hI hL;have g0:=hI d7;have f3:=hI d1;have M:Hid (0 < oo.size->∀ g c,Ao=some ⟨g,c,none⟩->w.heap.size + 1 < g):=fun O g c e=>by
   rcases d4 O g c e with h | ⟨h,_⟩
   .omega
   exact e8.out g c (by rw [<-h];exact e)
  have X:=hI (qaa I.out Q);have b4:=hI (b3.out.next_K Q);obtain ⟨⟨z0,z1,z2⟩,zf⟩:=blk3 (qak b1.out X.out);have c7:w.heap.size + 1 < w5.heap.size:=vad c6 Q.size;clear hL d7 d1 d4 Q k0 k1 k2;go_wp2;refine vau (v:=.agg #[.int .i64 pb,.slice Ao oo.size co,.slice As i.size cs]) ?_ rfl ⟨.agg #[.int .i64 pb,.slice Ao oo.size co,.slice As i.size cs],⟨pb,oo,i⟩,rfl,?_,?_,?_⟩
  .simp [results,results108,go_sem,z0,z1,z2,c7]
  .refine ⟨Ao,co,As,cs,rfl,?_,?_,f3.out,f4.out,fun O g c e=>by have:=M.out O g c e;omega,fun g c e=>by have:=N.out g c e;omega⟩
   .exact (((((g0.out.far0 ⟨w.heap.size + 1,0,none⟩ (.int .i64 pb) (fun O g c e=>vds (M.out O g c e))).far0 ⟨w.heap.size + 1,1,none⟩ (.slice Ao oo.size co) (fun O g c e=>vds (M.out O g c e))).far0 ⟨w.heap.size + 1,2,none⟩ (.slice As i.size cs) (fun O g c e=>vds (M.out O g c e)))).alloc js _).mono js
   exact (((((b4.out.far0 ⟨w.heap.size + 1,0,none⟩ (.int .i64 pb) (fun _ g c e=>vds (N.out g c e))).far0 ⟨w.heap.size + 1,1,none⟩ (.slice Ao oo.size co) (fun _ g c e=>vds (N.out g c e))).far0 ⟨w.heap.size + 1,2,none⟩ (.slice As i.size cs) (fun _ g c e=>vds (N.out g c e)))).alloc js _).mono js
  .exact ⟨G,e9.out,g7,⟨f5.out.symm,f0.out,g3.out.symm⟩⟩
  exact qab ((((qaa C.out X.out).setCell js _).setCell js _).setCell js _) _
end
