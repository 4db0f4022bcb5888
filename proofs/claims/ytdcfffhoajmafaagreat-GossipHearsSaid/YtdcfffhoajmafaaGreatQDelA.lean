/- Texts that the law leans on. -/
import Derived.Test.YtdcfffhoajmafaaGreatQKnP
import Derived.Test.YtdcfffhoajmafaaGreatQTbH
set_option maxRecDepth 100000
set_option maxHeartbeats 32000000
namespace Go.Proofs.YtdcfffhoajmafaaGreat
open Go.RowKit Go.Sort Go.Lib Go.Proofs.Tryz
theorem attDel (p:Int×Int->Bool) (g:Nat) (lb:Array Value) (eg:∀ H w,(callFunc g H).run prog w=.ok (.enter g H) w) (a off h:Nat) (d:Array (Int×Int)) (w:World)
 (hp:∀ W x,w.grownBy W (some a)->Calls prog g (#[.agg (qae x).toArray] ++ lb) W fun e w'=>e=.returned (.bool (p x))/\Below W.heap.size W w')
 (hH:HoldsK qae 2 w a off d) (D:a < w.heap.size) (c7:d.size<=1000000) (b6:d.size<=h) :
 Calls prog 69 #[.slice (some ⟨a,off,none⟩) d.size h,.func (.func g) #[] lb] w fun e w'=>e=.returned (.slice (some ⟨a,off,none⟩) (d.toList.filter fun x=>!p x).toArray.size h)/\w.grownBy w' (some a)/\RdK qae 2 w'.heap.size w' (some ⟨a,off,none⟩) (d.toList.filter fun x=>!p x).toArray:=by
 have U:∀ j,j < d.size->d.toList[j]! = d[j]!:=fun j A=>by rw [vae d j A,vae d.toList j (by simpa using A)];simp
 have k:=AnyQ.slices_IndexFunc (P:=prog) { laysContA with } 2 isAgg29 sizeOf29 qae qar p g lb eg a off d.size h d.toList w
  (fun W x q=>(hp W x (qbf q _)).mono fun _ _ ⟨he,b0⟩=>⟨he,q.trans (b0.mono q.size)⟩) js jo D (fun j A i v hv=>by
    have Z:j < d.size:=by simpa using A
    have hi:i < 2:=by
     rcases val i 2 with h' | h'
     .exact h'
     rw [vbr (by rw [qar];exact h')] at hv;cases hv
    rw [U j Z] at hv
    rw [(hH.cell Z hi).1,vdg,hv];rfl)
 rw [show d.toList.take d.size=d.toList from vaz js] at k;obtain ⟨E,Q⟩:∃ E:Nat->Bool,Hid (E=fun j=>!p d[j]!):=⟨_,rfl⟩
 have o:(d.toList.filter fun x=>!p x)=keptUpTo E d d.size:=by rw [Q.out];exact (keptUpTo_filter (fun x=>!p x) d).symm
 rw [o];have HH:=hI hH;have HP:=hI hp;rcases idxByFrom_spec (fun _ y=>p y) default d.toList 0 with ⟨X,f⟩ | ⟨r,b2,X,T,f⟩
 .have Y:Lib.idxBy (fun _ y=>p y) d.toList default = -1:=X
  rw [Y] at k;have b:∀ j,j < d.size->E j=true:=fun j A=>by rw [Q.out];show (!p d[j]!)=true;rw [<-U j A,f j (by simpa using A)];rfl
  have e3:keptUpTo E d d.size=d.toList:=by rw [keptUpTo_all E d _ b,range_map_get]
  have s:=hI k;clear hH hp k f U b o X Y;have a6:=hI e3;clear e3;go_in;go_wp2_with fail;refine s.out.mono ?_;rintro e w1 ⟨rfl,l⟩;go_wp2;go_ret;rw [a6.out];refine ⟨by simp,qbf l _,?_⟩;have b1:=qge HH.out D l
  have:=RdK.of_holds b1 (B:=w1.heap.size) (vad D l.size)
  simpa using this
 have a0:r < d.size:=by simpa using b2
 have Y:Lib.idxBy (fun _ y=>p y) d.toList default=(r:Int):=by unfold Lib.idxBy;rw [X];simp
 rw [Y] at k;have b:∀ j,j < r->E j=true:=fun j A=>by rw [Q.out];show (!p d[j]!)=true;rw [<-U j jo,f j A];rfl
 have n:E r=false:=by rw [Q.out];show (!p d[r]!)=false;rw [<-U r a0];rw [show p d.toList[r]! = true from T];rfl
 have b7:((r:Int) == -1)=false:=vch.2 jo;have s:=hI k;have a7:=hI (KeptInv.start (d:=d) b n);clear hH hp k f T X Y U b n o;go_in;go_wp2_with fail;refine s.out.mono ?_;rintro e w1 ⟨rfl,l⟩;have a5:=hI l;clear l s;go_wp2
 go_loopg [5,6] d.size (fun gg s5 s6 wr=>∃ (i j:Nat) (I:Array (Int×Int)),s5=.int .i64 i/\s6=.int .i64 j/\j<=d.size/\d.size - j<=gg/\Aside (SrtK qae 2 w a off I wr)/\Aside (KeptInv E d j i I))
 case atStart=>exact ⟨r,r + 1,d,rfl,by go_num,by omega,by omega,(SrtK.refl HH.out D).below a5.out,a7.out⟩
 case round =>
  obtain ⟨i,j,I,rfl,rfl,c5,c3,G,J⟩:=hrel;have c4:=J.out.lt;have c2:=J.out.size;by_cases a2:j < d.size
  .have a3:(j:Int) < (d.size:Int):=by omega
   have M:=(G.out.holds.cell (i:=j) (c:=0) jo jd).1;have N:=(G.out.holds.cell (i:=j) (c:=1) jo jd).1;rw [J.out.high j jo] at M N;obtain ⟨u,hu⟩:∃ u,d[j]! = u:=⟨_,rfl⟩
   rw [hu] at M N;have C:Aside (d[j]! = u):=hu;clear hu;simp only [qae,vac,vaf,vak] at M N;have O:=hI (fun W (hg:w.grownBy W (some a))=>HP.out W u hg);have b5:(i:Int) < (d.size:Int):=by omega
   have a4:∀ F,Below (wr.alloc (.cells #[.int .i64 u.1,.int .i64 u.2] 29)).heap.size (wr.alloc (.cells #[.int .i64 u.1,.int .i64 u.2] 29)) F->SrtK qae 2 w a off I F/\F.cell? ⟨wr.heap.size,0,none⟩=some (.int .i64 u.1)/\F.cell? ⟨wr.heap.size,1,none⟩=some (.int .i64 u.2):=fun F q=>by
    have S:=G.out.below (qaa (bel1 wr _) q);refine ⟨S,?_,?_⟩
    all_goals exact (q.cell (p:=⟨wr.heap.size,_,none⟩) js).trans (qau wr _ _ _)
   have z:=hI a4;clear a4;cases hq:p u with
   | false =>
     rw [hq] at O;go_wp2_with fail;refine (O.out _ (qbu G.out.grown (qbf (bel1 wr _) _))).mono ?_;rintro e F ⟨rfl,m⟩;obtain ⟨S,c9,d0⟩:=z.out F m;have R:=hI S;have K:=S.holds.cell (i:=i) (c:=0) jo jd;have V:=K.1;have a9:=K.2;have L:=S.holds.cell (i:=i) (c:=1) jo jd;have a8:=L.1;have c0:=L.2;simp only [vak] at V a9;clear S m O z K L;generalize (qae I[i]!)[0]! = b8 at V;generalize (qae I[i]!)[1]! = b9 at a8;go_wp2;go_roundg (d.size - (j + 1))
     case measure=>omega
     case rel =>
      refine ⟨i + 1,j + 1,I.setIfInBounds i u,by go_num,by go_num,by omega,vaa _,R.out.put qar jo u,(show Aside _ from ?_)⟩
      have:=J.out.keep a2 (by rw [Q.out];show (!p d[j]!)=true;rw [C.out,hq];rfl)
      rwa [C.out] at this
   | true =>
     rw [hq] at O;go_wp2_with fail;refine (O.out _ (qbu G.out.grown (qbf (bel1 wr _) _))).mono ?_;rintro e F ⟨rfl,m⟩;have R:=hI (z.out F m).1;clear m O z;go_wp2;go_roundg (d.size - (j + 1))
     case measure=>omega
     case rel=>exact ⟨i,j + 1,I,rfl,by go_num,by omega,vaa _,R.out,J.out.skip (by rw [Q.out];show (!p d[j]!)=false;rw [C.out,hq];rfl)⟩
  obtain rfl:j=d.size:=by omega
  have a3:¬ (d.size:Int) < (d.size:Int):=by omega
  have b5:(i:Int) < (d.size:Int):=by omega
  have c8:(i:Int)<=(h:Int):=by omega
  have c6:(h=i)=False:=by simp;omega
  obtain ⟨zs,b4,c1⟩:∃ zs,zs=zs/\∀ ty,(Builtin.clear_ #[23] ty #[.slice (some ⟨a,off + i * 2,none⟩) (d.size - i) (h - i)]).run prog wr=.ok (.tuple #[]) (wr.setCells a (off + i * 2) zs):=by
   refine ⟨_,rfl,fun ty=>qfh wr _ _ ty _ underlying23 zeroValue29 (qho _ _ (by simp [Value.cells,Value.oneCell'])) a (off + i * 2) _ jo (fun t T=>?_) (fun t T=>?_)⟩
   all_goals
    rw [qhn] at T;have b3:t < (d.size - i) * 2:=T;have q:=G.out.holds (i * 2 + t) (by rw [size_flatK];have:=vce 2 (show i<=d.size by omega);rw [Nat.sub_mul] at b3;omega);rw [<-vdl] at q
   .rw [q.1];rfl
   exact q.2
  have R:=hI G.out;have HI:=hI J.out;clear b4 G J;go_wp2;go_ret;have a1:=HI.out.len;refine ⟨?_,?_,?_⟩
  .simp only [a1];rfl
  .exact qbu R.out.grown (qed _ _ _ _)
  have:=qvm R.out HI.out zs
  simpa using this
theorem hasB_iff (k:KN) (t:Int):hasK k t=(chkB k && ((decide (1<=t) && decide (t<=k.base)) || qbg k.rs t)):=by unfold hasK;rw [Bool.decide_and]
theorem chkE_eq (k:KN):(chkE k == 0)=chkB k:=by unfold chkE;cases chkB k <;> rfl
theorem qlz (k:KN):(chkE k != 0) = !chkB k:=by unfold chkE;cases chkB k <;> rfl
def addP (base:Int) (rs:Array (Int×Int)) (x:Int×Int):Bool:=decide (x.1<=base) || qbg rs x.1
theorem kAdd1_any (a:Int) (rs:Array (Int×Int)) (c:Option Addr) (c1:Nat) (x:Int×Int) (g:Nat) (w:World) (k:g < w.heap.size) (i:w.cell? ⟨g,0,none⟩=some (.int .i64 a)) (m:w.cell? ⟨g,1,none⟩=some (.slice c rs.size c1)) (h:RdK encR 2 w.heap.size w c rs) :
 Calls prog 70 #[.agg #[.int .i64 x.1,.int .i64 x.2],.pointer (some ⟨g,0,none⟩)] w fun e o=>e=.returned (.bool (addP a rs x))/\Below w.heap.size w o:=by
 have l:=hI h;clear h;have q:(w.alloc (.cells #[.int .i64 x.1,.int .i64 x.2] 29)).cell? ⟨g,0,none⟩=some (.int .i64 a):=(vbq w _ _ k).trans i;have n:(w.alloc (.cells #[.int .i64 x.1,.int .i64 x.2] 29)).cell? ⟨g,1,none⟩=some (.slice c rs.size c1):=(vbq w _ _ k).trans m;have d:=hI (qkc c c1 rs x.1 (w.alloc (.cells #[.int .i64 x.1,.int .i64 x.2] 29)) ((l.out.alloc (vaa _) _).mono (bel1 w _).size));have b:Hid (addP a rs x=(decide (x.1<=a) || qbg rs x.1)):=hI rfl;generalize qbg rs x.1=p at d b;cases j:decide (x.1<=a)
 .rw [j,Bool.false_or] at b
  go_in;go_wp2_with fail;refine d.out.mono ?_;rintro e r ⟨rfl,f⟩;go_wp2;go_ret;exact ⟨qad b.out.symm,qaa (bel1 w _) f⟩
 rw [j,Bool.true_or] at b;clear d;go_in;go_wp2;go_ret;exact ⟨qad b.out.symm,bel1 w _⟩
theorem cont_any (A:Option Addr) (c:Nat) (d:Array Int) (x:Int) (w:World) (h:RdI_R w.heap.size w A d) (q:d.size<=100000000) :
 Calls prog 169 #[.slice A d.size c,.int .i64 x] w fun e l=>e=.returned (.bool (d.toList.contains x))/\w=l:=by
 rcases vba d.size with f | f
 .have m:d=#[]:=var f
  subst m;exact (slices_Contains_int_empty A c x w).mono fun e l ⟨g,i⟩=>⟨by rw [g];rfl,i.symm⟩
 obtain ⟨b,k,rfl,p,n⟩:=h f
 have:=slices_Contains_int b k d.size c d.toList x w js jo (fun j o=>by
  have a:j < d.size:=by simpa using o
  rw [n j a]
  simp [List.getD_eq_getElem?_getD,a])
 refine this.mono fun e l ⟨g,i⟩=>⟨?_,i.symm⟩
 rw [g,show d.toList.take d.size=d.toList from vaz js]
theorem qqz (ids:Array Int) (A:Option Addr) (c:Nat) (x:Int×Int) (g:Nat) (w:World) (j:g < w.heap.size) (d:w.cell? ⟨g,0,none⟩=some (.slice A ids.size c)) (h:RdI_R w.heap.size w A ids) (i:ids.size<=100000000) :
 Calls prog 168 #[.agg #[.int .i64 x.1,.int .i64 x.2],.pointer (some ⟨g,0,none⟩)] w fun e k=>e=.returned (.bool (qds ids x))/\Below w.heap.size w k:=by
 have f:(w.alloc (.cells #[.int .i64 x.1,.int .i64 x.2] 29)).cell? ⟨g,0,none⟩=some (.slice A ids.size c):=(vbq w _ _ j).trans d;have a:=hI (cont_any A c ids x.2 (w.alloc (.cells #[.int .i64 x.1,.int .i64 x.2] 29)) ((h.alloc (vaa _) _).mono (bel1 w _).size) i);have b:Hid (qds ids x=ids.toList.contains x.2):=hI rfl;generalize ids.toList.contains x.2=l at a b;clear h;go_in;go_wp2_with fail;refine a.out.mono ?_;rintro e m ⟨rfl,rfl⟩;go_wp2;go_ret;exact ⟨qad b.out.symm,bel1 w _⟩
def qra (k j:KN):Bool:=(k.base == j.base) && decide (k.rs=j.rs) && decide (k.ats=j.ats)
theorem qrb {k j:KN}:qra k j=true↔k=j:=by
 obtain ⟨a,b,c⟩:=k;obtain ⟨d,e,f⟩:=j;unfold qra;simp [and_assoc]
theorem qhu (w:World) (o a:Obj):((w.alloc o).alloc a).heap[w.heap.size]?=some o/\((w.alloc o).alloc a).heap[w.heap.size + 1]?=some a :=
 ⟨qdm (vaw w o),by rw [show w.heap.size + 1=(w.alloc o).heap.size by simp];exact vaw _ _⟩
theorem blk3 {W:World} {g:Nat} {a b c:Value} {T:TypeId} (h:W.heap[g]?=some (.cells #[a,b,c] T (0,0))):(W.cell? ⟨g,0,none⟩=some a/\W.cell? ⟨g,1,none⟩=some b/\W.cell? ⟨g,2,none⟩=some c)/\∀ i,W.frozen? ⟨g,i,none⟩=false:=by
 refine ⟨⟨?_,?_,?_⟩,fun i=>by simp [World.frozen?,h]⟩
 .rw [vas W _ 0 _ _ (0,0) h];rfl
 .rw [vas W _ 1 _ _ (0,0) h];rfl
 rw [vas W _ 2 _ _ (0,0) h];rfl
theorem qcj {W:World} {g:Nat} {o:Obj} (h:W.heap[g]?=some o):g < W.heap.size:=by
 rcases val g W.heap.size with a | a
 .exact a
 rw [vbn a] at h;cases h
theorem qak {W W':World} {g:Nat} {o:Obj} (h:W.heap[g]?=some o) (a:Below W.heap.size W W'):W'.heap[g]?=some o:=(a.block g (qcj h)).trans h
theorem kAdd_bad (c:Int) (rs ats:Array (Int×Int)) (r:Option Addr) (c1:Nat) (s:Option Addr) (c2:Nat) (lo hi:Int) (b:Array (Int×Int)) (z:Option Addr) (c3:Nat) (w:World) (I:RdK encR 2 w.heap.size w r rs) (J:RdK qae 2 w.heap.size w s ats) (K:RdK qae 2 w.heap.size w z b) (O:b.size<=1000000) (m:addB ⟨c,rs,ats⟩ lo hi b=false) :
 Calls prog 30 #[.agg #[.int .i64 c,.slice r rs.size c1,.slice s ats.size c2],.int .i64 lo,.int .i64 hi,.slice z b.size c3] w fun e y=>e=.returned (.tuple #[.agg #[.int .i64 0,.slice none 0 0,.slice none 0 0],.int .i64 2])/\Below w.heap.size w y:=by
 have q:Hid (∀ W,Below w.heap.size w W->Calls prog 67 #[.agg #[.int .i64 c,.slice r rs.size c1,.slice s ats.size c2]] W fun e y=>e=.returned (.int .i64 (chkE ⟨c,rs,ats⟩))/\Below W.heap.size W y):=fun W o=>qgo c rs ats r c1 s c2 W ((I.below o).mono o.size) ((J.below o).mono o.size)
 have t:Hid (∀ W,Below w.heap.size w W->Calls prog 68 #[.slice z b.size c3,.int .i64 lo,.int .i64 hi] W fun e y=>e=.returned (.bool (qbr hi lo b.toList))/\Below W.heap.size W y):=fun W o=>qpu z c3 b lo hi W ((K.below o).mono o.size) O
 have D:=hI m;have F:=qlz ⟨c,rs,ats⟩;clear I J K m;generalize chkE ⟨c,rs,ats⟩=P at F q;have u:=hI (qhu w (.cells #[.int .i64 c,.slice r rs.size c1,.slice s ats.size c2] 66) (.cells #[.int .i64 0,.slice none 0 0,.slice none 0 0] 66));cases x:chkB ⟨c,rs,ats⟩
 .rw [x] at F
  clear x;go_in;go_wp2_with fail;refine (q.out _ (qab (bel1 w _) _)).mono ?_;rintro e B ⟨rfl,a⟩;obtain ⟨⟨i,j,k⟩,A⟩:=blk3 (qak u.out.2 a);have d:=hI (qaa (qab (bel1 w _) _) a);clear a;go_wp2;refine vau (v:=.tuple #[.agg #[.int .i64 0,.slice none 0 0,.slice none 0 0],.int .i64 2]) (by simp [results,results30,go_sem,i,j,k]) rfl ⟨rfl,?_⟩;exact ((d.out.setCell js _).setCell js _).setCell js _
 rw [x] at F;have G:Hid (lo < 0\/hi < lo\/1000000 < hi\/qbr hi lo b.toList=false):=by
  show _\/_;have h:=D.out;unfold addB at h;rw [x,vcn,ver,vat] at h;by_cases f:lo < 0
  .exact Or.inl f
  by_cases l:hi < lo
  .exact Or.inr (Or.inl l)
  by_cases n:1000000 < hi
  .exact Or.inr (Or.inr (Or.inl n))
  exact Or.inr (Or.inr (Or.inr (by rcases h with h | h;exact absurd ⟨by omega,by omega,by omega⟩ h;exact h)))
 clear x;by_cases f:lo < 0
 .have L:decide (lo < 0)=true:=by simpa using f
  clear f;go_in;go_wp2_with fail;refine (q.out _ (qab (bel1 w _) _)).mono ?_;rintro e B ⟨rfl,a⟩;obtain ⟨⟨i,j,k⟩,A⟩:=blk3 (qak u.out.2 a);have d:=hI (qaa (qab (bel1 w _) _) a);clear a;go_wp2;refine vau (v:=.tuple #[.agg #[.int .i64 0,.slice none 0 0,.slice none 0 0],.int .i64 2]) (by simp [results,results30,go_sem,i,j,k]) rfl ⟨rfl,?_⟩;exact ((d.out.setCell js _).setCell js _).setCell js _
 have L:decide (lo < 0)=false:=vab f;by_cases l:hi < lo
 .have M:decide (hi < lo)=true:=by simpa using l
  clear f l;go_in;go_wp2_with fail;refine (q.out _ (qab (bel1 w _) _)).mono ?_;rintro e B ⟨rfl,a⟩;obtain ⟨⟨i,j,k⟩,A⟩:=blk3 (qak u.out.2 a);have d:=hI (qaa (qab (bel1 w _) _) a);clear a;go_wp2;refine vau (v:=.tuple #[.agg #[.int .i64 0,.slice none 0 0,.slice none 0 0],.int .i64 2]) (by simp [results,results30,go_sem,i,j,k]) rfl ⟨rfl,?_⟩;exact ((d.out.setCell js _).setCell js _).setCell js _
 have M:decide (hi < lo)=false:=vab l;by_cases n:1000000 < hi
 .have N:decide (1000000 < hi)=true:=by simpa using n
  clear f l n;go_in;go_wp2_with fail;refine (q.out _ (qab (bel1 w _) _)).mono ?_;rintro e B ⟨rfl,a⟩;obtain ⟨⟨i,j,k⟩,A⟩:=blk3 (qak u.out.2 a);have d:=hI (qaa (qab (bel1 w _) _) a);clear a;go_wp2;refine vau (v:=.tuple #[.agg #[.int .i64 0,.slice none 0 0,.slice none 0 0],.int .i64 2]) (by simp [results,results30,go_sem,i,j,k]) rfl ⟨rfl,?_⟩;exact ((d.out.setCell js _).setCell js _).setCell js _
 have N:decide (1000000 < hi)=false:=vab n;have H:qbr hi lo b.toList=false:=by
  rcases G.out with g | g | g | g
  .exact absurd g f
  .exact absurd g l
  .exact absurd g n
  exact g
 rw [H] at t;clear f l n H G;go_in;go_wp2_with fail;refine (q.out _ (qab (bel1 w _) _)).mono ?_;rintro e B ⟨rfl,a⟩;have E:=hI (qak u.out.2 a);have d:=hI (qaa (qab (bel1 w _) _) a);clear a;go_wp2_with fail;refine (t.out _ d.out).mono ?_;rintro e Q ⟨rfl,p⟩;obtain ⟨⟨i,j,k⟩,A⟩:=blk3 (qak E.out p);have C:=hI (qaa d.out p);clear p;go_wp2;refine vau (v:=.tuple #[.agg #[.int .i64 0,.slice none 0 0,.slice none 0 0],.int .i64 2]) (by simp [results,results30,go_sem,i,j,k]) rfl ⟨rfl,?_⟩;exact ((C.out.setCell js _).setCell js _).setCell js _
theorem idxA_nil (a:Value) (c:Nat) (w:World) :
 Calls prog 149 #[.slice none 0 c,a] w fun e b=>e=.returned (.int .i64 (-1))/\w=b:=by
 go_in;go_wp2;refine vdi 1 ?_;rw [vcy];go_wp2;go_ret;exact ⟨rfl,rfl⟩
theorem delA_nil (b:Value) (c:Nat) (w:World) :
 Calls prog 69 #[.slice none 0 c,b] w fun e a=>e=.returned (.slice none 0 c)/\w=a:=by
 go_in;go_wp2_with (go_at_call 149;refine (idxA_nil _ _ _).mono ?_;rintro e a ⟨rfl,rfl⟩);go_ret;exact ⟨rfl,rfl⟩
theorem qpj (p:Int×Int->Bool) (g:Nat) (lb:Array Value) (z:∀ f w,(callFunc g f).run prog w=.ok (.enter g f) w) (v:Value) (d:Array (Int×Int)) (B:Nat) (w:World)
 (J:∀ W x,(∀ i,i < B->W.heap[i]?=w.heap[i]?)->B<=W.heap.size->Calls prog g (#[.agg (qae x).toArray] ++ lb) W fun e l=>e=.returned (.bool (p x))/\Below W.heap.size W l)
 (b:w.ownsRow B 29 2 v d.size (flatK qae 2 d).toList) (E:B<=w.heap.size) (s:d.size<=1000000) :
 Calls prog 69 #[v,.func (.func g) #[] lb] w fun e l=>∃ A c,e=.returned (.slice A (d.toList.filter fun x=>!p x).toArray.size c)/\RdK qae 2 l.heap.size l A (d.toList.filter fun x=>!p x).toArray/\(A=none->c=0)/\(∀ g k,A=some ⟨g,k,none⟩->B<=g)/\Below B w l:=by
 by_cases r:v=.slice none 0 0
 .subst r
  have o:d.size=0:=by
   obtain ⟨_,⟨_,o⟩ | ⟨g,a,n,t,_⟩⟩:=b
   .exact o
   cases t
  obtain rfl:d=#[]:=var o;refine (delA_nil _ 0 w).mono ?_;rintro e l ⟨rfl,rfl⟩;exact ⟨none,0,rfl,fun h=>absurd h js,fun _=>rfl,(fun g k e=>by cases e),vag _ _⟩
 have m:∀ y a,v=.slice (some ⟨y,0,none⟩) d.size a->d.size<=a:=fun y a e=>by
  obtain ⟨_,⟨D,_⟩ | ⟨L,u,n,t,_,_,I,_⟩⟩:=b
  .exact absurd D r
  rw [t] at e;injection e with _ _ e3
  omega
 obtain ⟨C,a,rfl,G,q,F⟩:=qbl b r;refine (attDel p g lb z C 0 a d w (fun W x j=>J W x (fun i H=>j.block i jo (fun e=>by injection e with e;omega)) (vax E j.size)) F q s (m _ _ rfl)).mono ?_;rintro e l ⟨rfl,j,K⟩;exact ⟨_,_,rfl,K,(fun h=>by cases h),(fun g k e=>by injection e with e;injection e with e1 e2;omega),⟨j.os,j.tape,j.output,j.size,fun i H=>j.block i jo (fun e=>by injection e with e;omega)⟩⟩
theorem RdK.blocks {α:Type} [Inhabited α] {enc:α->List Value} {k B0 B:Nat} {w W:World} {A:Option Addr} {d:Array α} (h:RdK enc k B0 w A d) (n:B0<=B) (j:∀ i,i < B->W.heap[i]?=w.heap[i]?):RdK enc k B0 W A d:=fun g=>by
 obtain ⟨b,c,e,f,l⟩:=h g;exact ⟨b,c,e,f,fun t m=>(vdf (a:=⟨b,c + t,none⟩) (j b jo)).trans (l t m)⟩
theorem RdK.far {α:Type} [Inhabited α] {enc:α->List Value} {k B:Nat} {w:World} {A:Option Addr} {d:Array α} (h:RdK enc k B w A d) (p:Addr) (v:Value) (j:∀ g a,A=some ⟨g,a,none⟩->g≠p.block):RdK enc k B (w.setCell p v) A d:=fun f=>by
 obtain ⟨b,a,e,c,i⟩:=h f;exact ⟨b,a,e,c,fun t l=>(World.cell?_setCell_far w p ⟨b,a + t,none⟩ v (Ne.symm (j b a e))).trans (i t l)⟩
theorem qtt {w:World} {g:Nat} {d:Array Int} {T:TypeId} (h:w.heap[g]?=some (.cells (d.map qdq) T (0,0))):RdI_R w.heap.size w (some ⟨g,0,none⟩) d:=fun _ =>
 ⟨g,0,rfl,qcj h,fun t a=>by
  rw [vcc,vas w g t _ _ (0,0) h]
  simp [qdq,a]⟩
theorem SrtK.putLo {w j:World} {g:Nat} {b:Array (Int×Int)} (h:SrtK encR 2 w g 0 b j) {k:Nat} (f:k < b.size) (a:Int):SrtK encR 2 w g 0 (b.setIfInBounds k (a,b[k]!.2)) (j.setCell ⟨g,k * 2,none⟩ (.int .i64 a)):=by
 have o:k * 2 + 2<=b.size * 2:=by omega
 refine ⟨?_,h.lt,qbu h.grown (qcs _ _ _ _)⟩;unfold HoldsK;rw [qsz qbj b k f];have c:=holds_setCells_c h.holds (k * 2) [.int .i64 a] (by rw [size_flatK];simp;omega);have n:(flatK encR 2 b)[k * 2 + 1]! = .int .i64 b[k]!.2:=by
  rw [qfw encR 2 b k 1 f jd];rfl
 have e:setMany (flatK encR 2 b) (k * 2) (encR (a,b[k]!.2))=setMany (flatK encR 2 b) (k * 2) [.int .i64 a]:=by
  have r:k * 2 + 1 < (flatK encR 2 b).size:=by rw [size_flatK];omega
  apply Array.ext
  .simp
  intro t c d;have i:t < (flatK encR 2 b).size:=by simpa using c
  rw [<-vae _ t c,<-vae _ t d,get_setMany _ _ _ t i,get_setMany _ _ _ t i];by_cases l:t=k * 2
  .subst l;simp [encR]
  by_cases m:t=k * 2 + 1
  .subst m
   rw [n];simp [encR]
  have q:(encR (a,b[k]!.2)).length=2:=rfl;have p:[Value.int .i64 a].length=1:=rfl;rw [q,p,vao jo,vao jo]
 rw [e];have d:=c;rw [vcc] at d;exact d
def mxR (base:Int) (r:Int×Int):Int×Int:=(max r.1 (base + 1),r.2)
theorem moreK_eq (a lo hi:Int) (b:List Int):qui a lo hi b=(betL lo hi (lo + 1) b).toArray.map (mxR a):=by
 unfold qui mxR;simp
def MxL (base:Int) (bt:Array (Int×Int)) (g:Nat) (w:World) (iv:Value) (wr:World):Prop:=∃ (k:Nat) (dk:Array (Int×Int)),iv=.int .i64 (k:Int)/\k<=bt.size/\dk.size=bt.size/\(∀ j,j < k->dk[j]! = mxR base bt[j]!)/\(∀ j,k<=j->dk[j]! = bt[j]!)/\SrtK encR 2 w g 0 dk wr
theorem betL_ne (lo hi:Int):∀ (l:List Int) (a:Int),betL lo hi a l≠[]
 | [],_=>by rw [betL];simp
 | t :: l,a=>by
   rw [betL];split
   .simp
   exact betL_ne lo hi l a
theorem RdI_R.next {w w':World} {A:Option Addr} {d:Array Int} (h:RdI_R w.heap.size w A d) (a:Below w.heap.size w w'):RdI_R w'.heap.size w' A d:=(h.below a).mono a.size
theorem three_blk (w:World) (o b a:Obj):(((w.alloc o).alloc b).alloc a).heap[w.heap.size]?=some o/\(((w.alloc o).alloc b).alloc a).heap[w.heap.size + 1]?=some b/\(((w.alloc o).alloc b).alloc a).heap[w.heap.size + 2]?=some a :=
 ⟨qdm (qhu w o b).1,qdm (qhu w o b).2,by rw [show w.heap.size + 2=((w.alloc o).alloc b).heap.size by simp];exact vaw _ _⟩
theorem blk1 {W:World} {g:Nat} {a:Value} {T:TypeId} (h:W.heap[g]?=some (.cells #[a] T (0,0))):W.cell? ⟨g,0,none⟩=some a:=by rw [vas W g 0 _ _ (0,0) h];rfl
def qoa (ids:Array Int) (l:List (Int×Int)):List (Int×Int):=(l.filter (qds ids)).map fun a=>(a.1,a.1)
def StL (ids:Array Int) (ats:Array (Int×Int)) (w:World) (ov iv:Value) (wr:World):Prop:=∃ (j:Nat) (out:Array (Int×Int)),iv=.int .i64 (j:Int)/\j<=ats.size/\out.size<=j/\qoa ids ats.toList=out.toList ++ qoa ids (ats.toList.drop j)/\wr.ownsRow w.heap.size 124 2 ov out.size (flatK encR 2 out).toList/\Below w.heap.size w wr
theorem qom (d:Array Int) (l:∀ i j,i<=j->j < d.size->d[i]!<=d[j]!):∀ m,m<=d.size->(compactUpTo d m).Pairwise (· < ·)/\∀ x,x ∈ compactUpTo d m↔∃ j,j < m/\d[j]! = x
 | 0,_=>by simp [compactUpTo]
 | m + 1,hm=>by
   obtain ⟨n,g⟩:=qom d l m jo;rw [compactUpTo_succ];cases f:keeps d m
   .have a:¬ (m=0\/d[m]!≠d[m - 1]!):=by unfold keeps at f;simpa using f
    have p:m≠0:=fun h=>a (Or.inl h)
    have k:d[m]! = d[m - 1]!:=Classical.byContradiction fun h=>a (Or.inr h)
    refine ⟨by simpa using n,fun x=>?_⟩;simp only [vey,if_false,List.append_nil];rw [g]
    constructor
    .rintro ⟨j,c,e⟩
     exact ⟨j,by omega,e⟩
    rintro ⟨j,c,e⟩;by_cases b:j=m
    .subst b
     exact ⟨j - 1,by omega,by rw [<-k];exact e⟩
    exact ⟨j,by omega,e⟩
   have a:m=0\/d[m]!≠d[m - 1]!:=by unfold keeps at f;simpa using f
   refine ⟨?_,fun x=>?_⟩
   .simp only [if_true]
    refine vcm.2 ⟨n,by simp,fun x q y r=>?_⟩;obtain ⟨j,c,rfl⟩:=(g x).1 q;obtain rfl:y=d[m]!:=by simpa using r
    have s:=l j (m - 1) jo jo;have t:=l (m - 1) m jo jo;rcases a with o | o
    .omega
    omega
   simp only [if_true,vbw,vco];rw [g]
   constructor
   .rintro (⟨j,c,e⟩ | rfl)
    .exact ⟨j,by omega,e⟩
    exact ⟨m,by omega,rfl⟩
   rintro ⟨j,c,e⟩;by_cases b:j=m
   .subst b;exact Or.inr e.symm
   exact Or.inl ⟨j,by omega,e⟩
theorem qob (l:List Int):(compact (l.mergeSort fun x y=>decide (x<=y))).Pairwise (· < ·)/\∀ x,x ∈ compact (l.mergeSort fun x y=>decide (x<=y))↔x ∈ l:=by
 have o:=List.mergeSort_perm l (fun x y=>decide (x<=y));have p:(l.mergeSort fun x y=>decide (x<=y)).Pairwise (·<=·):=by
  have:=List.pairwise_mergeSort (le:=fun x y:Int=>decide (x<=y)) (fun a b c m n=>by simp at *;omega) (fun a b=>by simp;omega) l
  exact this.imp (fun h=>by simpa using h)
 generalize (l.mergeSort fun x y=>decide (x<=y))=s at o p;have r:∀ i j,i<=j->j < s.toArray.size->s.toArray[i]!<=s.toArray[j]!:=fun i j f d=>by
  have g:j < s.length:=by simpa using d
  rcases Nat.eq_or_lt_of_le f with rfl | k
  .exact vdo _
  have:=vbp.1 p i j jo g k
  rw [vae _ i jso,vae _ j d];simpa using this
 obtain ⟨m,n⟩:=qom s.toArray r s.length js;refine ⟨m,fun x=>?_⟩;have q:x ∈ compact s↔∃ j,j < s.length/\s.toArray[j]! = x:=n x;rw [q,<-o.mem_iff,vbt]
 constructor
 .rintro ⟨j,d,e⟩
  exact ⟨j,d,by rw [vae _ j (by simpa using d)] at e;simpa using e⟩
 rintro ⟨j,d,e⟩;exact ⟨j,d,by rw [vae _ j (by simpa using d)];simpa using e⟩
structure OpenR (k:KN) (s:Array Int):Prop where
 up:s.toList.Pairwise (· < ·)
 mem:∀ x,x ∈ s.toList↔chkB k=true/\x ∈ k.ats.toList.map (·.2)
theorem up_ext:∀ {a b:List Int},a.Pairwise (· < ·)->b.Pairwise (· < ·)->(∀ x,x ∈ a↔x ∈ b)->a=b
 | [],[],_,_,_=>rfl
 | [],y :: b,_,_,h=>absurd ((h y).2 js) js
 | x :: a,[],_,_,h=>absurd ((h x).1 js) js
 | x :: a,y :: b,h1,h2,h=>by
   obtain ⟨g,l⟩:=vbu.1 h1;obtain ⟨i,m⟩:=vbu.1 h2;have f:x=y:=by
    rcases vcb.1 ((h x).1 js) with e | j
    .exact e
    rcases vcb.1 ((h y).2 js) with e | k
    .exact e.symm
    have:=i x j;have:=g y k;omega
   subst f;rw [up_ext l m (fun z=>⟨fun d=>?_,fun d=>?_⟩)]
   .rcases vcb.1 ((h z).1 (by simp [d])) with e | c
    .have:=g z d;omega
    exact c
   rcases vcb.1 ((h z).2 (by simp [d])) with e | c
   .have:=i z d;omega
   exact c
theorem OpenR.uniq {k:KN} {s t:Array Int} (h:OpenR k s) (g:OpenR k t):s=t :=
 vda.1 (up_ext h.up g.up (fun x=>(h.mem x).trans (g.mem x).symm))
theorem own_ints {w:World} {b:Nat} {e:TypeId} {v:Value} {l:List Int} (h:w.ownsRow b e 1 v l.length (l.map (Value.int .i64))) (s:v≠.slice none 0 0):∃ g a,v=.slice (some ⟨g,0,none⟩) l.length a/\l.length<=a/\b<=g/\g < w.heap.size/\Holds (Value.int .i64) w g 0 l.toArray:=by
 obtain ⟨_,⟨o,_⟩ | ⟨g,a,c,t,p,d,i,r,n,k⟩⟩:=h
 .exact absurd o s
 refine ⟨g,a,t,i,p,qcj d,fun j q=>?_⟩;have f:j < l.length:=by simpa using q
 rw [vcc];refine ⟨?_,by simp [World.frozen?,d]⟩;rw [vas w g j _ _ (0,0) d];have m:c.toList[j]?=(l.map (Value.int .i64))[j]?:=by rw [<-k,vff jo]
 rw [vbh] at m;rw [m];simp [f]
theorem qlb {w a:World} {B g off:Nat} (b:Below B w a) (k:B<=a.heap.size) (j:B<=g) (n:Nat) (d:Array Int) (e:Array Obj):Below B w (grow (putRow (Value.int .i64) (Sort.ahead a n) g off d) e):=by
 have c:(putRow (Value.int .i64) (Sort.ahead a n) g off d).heap.size=a.heap.size:=size_putRow _ _ _ _ _;refine ⟨b.os,b.tape,b.output,?_,fun i h=>?_⟩
 .show _<=((putRow (Value.int .i64) (Sort.ahead a n) g off d).heap ++ e).size
  rw [vdd,c]
  have:=b.size
  omega
 have f:((putRow (Value.int .i64) (Sort.ahead a n) g off d).heap)[i]?=a.heap[i]?:=by
  show ((Sort.ahead a n).heap.modify g _)[i]?=_;rw [vcw,vao jo];rfl
 show ((putRow (Value.int .i64) (Sort.ahead a n) g off d).heap ++ e)[i]?=_;rw [vea (by rw [c];omega),f];exact b.block i h
theorem rdI_put {w:World} {g n:Nat} {l:List Int} {z:List Int} {s:Array Int} (h:Holds (Value.int .i64) (Sort.ahead w n) g 0 s) (b:(l ++ z).length=s.size) (e:g < w.heap.size):RdI_R (putRow (Value.int .i64) (Sort.ahead w n) g 0 (l ++ z).toArray).heap.size (putRow (Value.int .i64) (Sort.ahead w n) g 0 (l ++ z).toArray) (some ⟨g,0,none⟩) l.toArray:=fun _=>by
 have f:=holds_putRow (Value.int .i64) (Sort.ahead w n) g 0 s (l ++ z).toArray h (by simpa using b);refine ⟨g,0,rfl,by rw [size_putRow];exact e,fun t d=>?_⟩;have c:t < l.length:=by simpa using d
 have a:t < (l ++ z).toArray.size:=by simp;omega
 rw [(f t a).1,vae _ t a,vae _ t d];simp [List.getElem_append_left c]
theorem holds_pre {w:World} {g n:Nat} {l:List Int} {z:List Int} {s:Array Int} (f:Holds (Value.int .i64) (Sort.ahead w n) g 0 s) (b:(l ++ z).length=s.size):Holds (Value.int .i64) (putRow (Value.int .i64) (Sort.ahead w n) g 0 (l ++ z).toArray) g 0 l.toArray:=fun t e=>by
 have d:=holds_putRow (Value.int .i64) (Sort.ahead w n) g 0 s (l ++ z).toArray f (by simpa using b);have c:t < l.length:=by simpa using e
 have a:t < (l ++ z).toArray.size:=by simp;omega
 refine ⟨?_,(d t a).2⟩;rw [(d t a).1,vae _ t a,vae _ t e];simp [List.getElem_append_left c]
def OwnB (B:Nat) (w:World) (A:Option Addr) (c:Nat) (s:Array Int):Prop:=s=#[]\/∃ g,A=some ⟨g,0,none⟩/\B<=g/\g < w.heap.size/\Holds (Value.int .i64) w g 0 s/\s.size<=c
theorem qyk (v:Value) (k:KN) (w:World) (h:KnV w v k) (s1:k.ats.size<=100000) :
 Calls prog 172 #[v] w fun e T=>(∃ A s c,e=.returned (.slice A s.size c)/\OpenR k s/\RdI_R T.heap.size T A s/\s.size<=k.ats.size/\OwnB w.heap.size T A c s)/\Below w.heap.size w T:=by
 obtain ⟨i0,a8,a9,b0,b1⟩:=vbo qcc;obtain ⟨m,B,a⟩:=k;obtain ⟨A1,c1,A2,c2,rfl,h1,h2,_,_⟩:=h;have HC:Hid (∀ W,Below w.heap.size w W->Calls prog 67 #[.agg #[.int .i64 m,.slice A1 B.size c1,.slice A2 a.size c2]] W fun e T=>e=.returned (.int .i64 (chkE ⟨m,B,a⟩))/\Below W.heap.size W T):=fun W hb=>qgo m B a A1 c1 A2 c2 W ((h1.below hb).mono hb.size) ((h2.below hb).mono hb.size)
 have q0:=qlz ⟨m,B,a⟩;have H2:=hI h2;simp only at s1;clear h1 h2;generalize chkE ⟨m,B,a⟩=ce at q0 HC;cases R:chkB ⟨m,B,a⟩
 .have H:Hid (OpenR ⟨m,B,a⟩ #[]):=⟨by simp,fun x=>by rw [R];simp⟩
  rw [R] at q0;clear R;go_in;go_wp2_with fail;refine (HC.out _ (bel1 w _)).mono ?_;rintro e C ⟨rfl,t⟩;have r:=hI (qaa (bel1 w _) t);clear t;go_wp2;refine vau (v:=.slice none 0 0) (by simp [results,results172,go_sem]) rfl ⟨⟨none,#[],0,rfl,H.out,RdI_R.none_,vaj _,Or.inl rfl⟩,r.out⟩
 have a6:=hI R;rw [R] at q0;clear R;go_in;go_wp2_with fail;refine (HC.out _ (bel1 w _)).mono ?_;rintro e C ⟨rfl,t⟩;obtain ⟨u0,u1,u2⟩:=box3 t;have r:=hI (qaa (bel1 w _) t);clear t HC;go_wp2
 go_loopw [3,12] (fun ov iv wr=>∃ (j:Nat) (l:List Int),iv=.int .i64 (j:Int)/\j<=a.size/\l.length<=j/\a.toList.map (·.2)=l ++ (a.toList.drop j).map (·.2)/\wr.ownsRow C.heap.size 3 1 ov l.length (l.map (Value.int .i64))/\Below C.heap.size C wr) (fun _ i _=>a.size - (intOf i).toNat)
 case atStart=>exact ⟨0,[],rfl,vaj _,vaa _,rfl,vcj _ _ _ _,vag _ _⟩
 case round =>
  clear u0 u1 u2;obtain ⟨j,l,rfl,hj,hl,he,o,hB⟩:=hrel;have HE:=hI he;have Q:=hI hB;clear he hB;by_cases a4:j < a.size
  .have jz:(j:Int) < (a.size:Int):=by omega
   obtain ⟨b,c3,rfl,b6,f⟩:=(H2.out.below (qaa r.out Q.out)).at_ a4;have e0:=f 0 jo;have e1:=f 1 jo;have HD:=hI (qfr a j a4);generalize a[j]! = x at e0 e1 HD;simp only [vak,qae,vac,vaf] at e0 e1;clear f;have H:Hid (a.toList.map (·.2)=(l ++ [x.2]) ++ (a.toList.drop (j + 1)).map (·.2)):=by show _=_;rw [HE.out,HD.out];simp
   have hz:=Q.out.size
   go_wp2_with (at_builtin;refine vay _ rfl _ _ 26 rfl C.heap.size 3 i0 (.int .i64 0) 1 8 underlying26 a8 a9 b0 b1 rfl jd _ _ _ rfl ((o.alloc _).alloc _) ⟨wr.heap.size + 1,0,none⟩ 1 1 [.int .i64 x.2] rfl rfl (fun j u S=>by
    match j,S with
    | 0,S=>simp at S;subst S;rw [show (⟨wr.heap.size + 1,0,none⟩:Addr).add 0=⟨(wr.alloc (.cells #[.int .i64 x.1,.int .i64 x.2] 29)).heap.size,0,none⟩ by simp [Addr.add]];exact qau _ _ _ 0
    | j + 1,S=>simp at S) jV jl jo jso ?_;intro v' w5 P N _)
   go_roundw
   case rel=>exact ⟨j + 1,l ++ [x.2],by go_num,by omega,by simp;omega,H.out,(by simpa using P),qhh Q.out hz o N⟩
   case measure=>simp [intOf];omega
  have b3:decide ((j:Int) < (a.size:Int))=false:=vab jo;have HL:Hid (a.toList.map (·.2)=l):=by
   show _=_;rw [HE.out,vcl jso];simp
  have z:Hid (∀ s:List Int,s.Pairwise (· < ·)->(∀ x,x ∈ s↔x ∈ l)->OpenR ⟨m,B,a⟩ s.toArray):=fun s p1 p2=>⟨by simpa using p1,fun x=>by rw [a6.out];simp only [true_and];rw [HL.out];simpa using p2 x⟩
  rcases l with _ | ⟨y,l⟩
  .obtain ⟨Av,cv,rfl,_⟩:=qjf o
   have H:Hid (OpenR ⟨m,B,a⟩ (#[]:Array Int)):=z.out [] js (fun x=>Iff.rfl);clear o z HL HE;go_wp2_with fail;refine (slices_Sort_int_none Av cv wr).mono ?_;rintro e U ⟨rfl,rfl⟩;go_wp2_with fail;refine (slices_Compact_int_empty Av cv U).mono ?_;rintro e V ⟨rfl,rfl⟩;go_wp2;go_ret;exact ⟨⟨Av,#[],cv,rfl,H.out,RdI_R.none_,vaj _,Or.inl rfl⟩,qaa r.out Q.out⟩
  obtain ⟨L,hL⟩:∃ L,y :: l=L:=⟨_,rfl⟩
  have b5:0 < L.length:=by rw [<-hL];simp
  have b8:L.length<=100000:=by rw [<-hL];omega
  have b9:L.length<=a.size:=by rw [<-hL];omega
  rw [hL] at o z HL;clear hL HE;have hn:∀ v,wr.ownsRow C.heap.size 3 1 v L.length (L.map (Value.int .i64))->v≠.slice none 0 0:=fun v h e=>by
   subst e;obtain ⟨_,⟨_,h0⟩ | ⟨g,E,b4,hv,_⟩⟩:=h
   .omega
   cases hv
  obtain ⟨g,E,rfl,c0,a2,a3,hH⟩:=own_ints o (hn _ o);have hz:=Q.out.size;have Z:=hI (slices_Sort_int g 0 E L wr hH a3 jo);have HH:=hI hH;obtain ⟨I,J⟩:=qob L;have O:(L.mergeSort fun x y=>decide (x<=y)).length=L.length:=List.length_mergeSort ..;obtain ⟨d,G⟩:∃ d,(L.mergeSort fun x y=>decide (x<=y))=d:=⟨_,rfl⟩
  rw [G] at Z I J O;have H:Hid (OpenR ⟨m,B,a⟩ (compact d).toArray):=z.out _ I J;have p:=hI O;clear o hn hH z HL I J O G;go_wp2_with fail;refine Z.out.mono ?_;rintro e U ⟨rfl,n,os,F⟩;have a0:Below C.heap.size C U:=by rw [F];exact qlb Q.out hz a2 n _ os
  have a1:g < U.heap.size:=by
   rw [F];show g < ((putRow (Value.int .i64) (Sort.ahead wr n) g 0 d.toArray).heap ++ os).size;rw [vdd,size_putRow];show g < wr.heap.size + _;omega
  have K:Holds (Value.int .i64) U g 0 d.toArray:=by
   rw [F];refine holds_grow _ _ _ _ _ _ (by rw [size_putRow];exact a3) (holds_putRow _ (Sort.ahead wr n) g 0 L.toArray d.toArray (holds_ahead _ _ _ _ _ _ HH.out) (by simpa using p.out))
  have M:=slices_Compact_int g 0 E d U K (jg p.out) (jg p.out);rw [p.out] at M;have a7:=hI M;have Y:=hI K;have X:=hI a0;clear F K M a0;go_wp2_with fail;refine a7.out.mono ?_;rintro e V ⟨rfl,q,a5⟩;have b2:=compact_length_le d;have D:Hid (RdI_R V.heap.size V (some ⟨g,0,none⟩) (compact d).toArray/\Below C.heap.size C V/\g < V.heap.size/\Holds (Value.int .i64) V g 0 (compact d).toArray):=by
   have e1:(compact d ++ List.replicate (L.length - (compact d).length) 0).length=d.toArray.size:=by simp [p.out];have:=p.out;omega
   rw [a5];refine ⟨rdI_put (holds_ahead _ _ _ _ _ _ Y.out) e1 a1,?_,by rw [size_putRow];exact a1,holds_pre (holds_ahead _ _ _ _ _ _ Y.out) e1⟩
   have:=qlb X.out X.out.size a2 q (compact d ++ List.replicate (L.length - (compact d).length) 0).toArray (g:=g) (off:=0) #[]
   rwa [grow_empty] at this
  clear a5;go_wp2;go_ret;have b7:=r.out.size;refine ⟨⟨some ⟨g,0,none⟩,(compact d).toArray,E,?_,H.out,D.out.1,?_,Or.inr ⟨g,rfl,by omega,D.out.2.2.1,D.out.2.2.2,?_⟩⟩,qaa r.out D.out.2.1⟩
  .simp
  .have:=p.out
   show (compact d).toArray.size<=a.size;simp;omega
  have:=p.out
  simp;omega
theorem qtu (L M:Value) (k j:KN) (w:World) (O:KnV w L k) (P:KnV w M j) (s1:k.rs.size<=100000) (I:k.ats.size<=100000) (J:j.rs.size<=100000) (K:j.ats.size<=100000) :
 Calls prog 113 #[L,M] w fun e r=>e=.returned (.bool (qra k j))/\Below w.heap.size w r:=by
 obtain ⟨p,h,f⟩:=k;obtain ⟨q,i,g⟩:=j;obtain ⟨s,y,t,z,rfl,E,F,_,_⟩:=O;obtain ⟨u,A,v,c4,rfl,G,H,_,_⟩:=P;have o:Hid (∀ W,Below w.heap.size w W->Calls prog 114 #[.slice s h.size y,.slice u i.size A] W fun e r=>e=.returned (.bool (decide (h=i)))/\Below W.heap.size W r):=fun W c=>r4Same_b s u y A h i W ((E.below c).mono c.size) ((G.below c).mono c.size) (by simp only at J;omega)
 have l:Hid (∀ W,Below w.heap.size w W->Calls prog 43 #[.slice t f.size z,.slice v g.size c4] W fun e r=>e=.returned (.bool (decide (f=g)))/\Below W.heap.size W r):=fun W c=>(qiw t v z c4 f g w.heap.size W (F.below c) (H.below c) (by simp only at I;omega) (by simp only at K;omega)).mono fun _ _ ⟨Q,n,R⟩=>⟨Q,by rw [R];exact qaj (vag _ _) n⟩
 have D:=hI (qhu w (.cells #[.int .i64 p,.slice s h.size y,.slice t f.size z] 66) (.cells #[.int .i64 q,.slice u i.size A,.slice v g.size c4] 66));have b:Hid (qra ⟨p,h,f⟩ ⟨q,i,g⟩=((p == q) && decide (h=i) && decide (f=g))):=hI rfl;clear E F G H s1 I J K;generalize decide (h=i)=er at o b;generalize decide (f=g)=ea at l b;generalize qra ⟨p,h,f⟩ ⟨q,i,g⟩=C at b;cases c:(p == q)
 .rw [c] at b
  have m:Hid (C=false):=b.out;clear b o l;go_in;go_wp2;go_ret;exact ⟨qad m.out.symm,qab (bel1 w _) _⟩
 rw [c,vcn] at b;cases er
 .have m:Hid (C=false):=b.out
  clear b l;go_in;go_wp2_with fail;refine (o.out _ (qab (bel1 w _) _)).mono ?_;rintro e N ⟨rfl,a⟩;have d:=hI (qaa (qab (bel1 w _) _) a);clear a;go_wp2;go_ret;exact ⟨qad m.out.symm,d.out⟩
 have m:Hid (C=ea):=b.out;clear b;go_in;go_wp2_with fail;refine (o.out _ (qab (bel1 w _) _)).mono ?_;rintro e N ⟨rfl,a⟩;obtain ⟨⟨u0,u1,u2⟩,_⟩:=blk3 (qak D.out.1 a);obtain ⟨⟨S,T,U⟩,_⟩:=blk3 (qak D.out.2 a);have d:=hI (qaa (qab (bel1 w _) _) a);have x:=hI (l.out N d.out);clear a l o;go_wp2_with fail;refine x.out.mono ?_;rintro e V ⟨rfl,B⟩;go_wp2;go_ret;exact ⟨qad m.out.symm,qaa d.out B⟩
theorem qwa {d:Array (Int×Int)} (l:List (Int×Int)) (h:d=l.toArray) (a:l.Pairwise (fun x y=>x.1 < y.1)):srtA d=l.toArray:=by
 subst h;exact srtA_self (by simpa using a)
theorem flat_of {enc:Int×Int->List Value} (a:∀ x,(enc x).length=2) {d:Array (Int×Int)} {cs:Array Value} (h:cs=(d.toList.flatMap enc).toArray):cs=flatK enc 2 d:=by
 apply vda.1;rw [qer a,h]
theorem RdK.lit_K {enc:Int×Int->List Value} (a:∀ x,(enc x).length=2) (w:World) (d:Array (Int×Int)) (cs:Array Value) (e:TypeId) (h:cs=(d.toList.flatMap enc).toArray):RdK enc 2 (w.alloc (.cells cs e)).heap.size (w.alloc (.cells cs e)) (some ⟨w.heap.size,0,none⟩) d:=(RdK.new w enc 2 d e cs (flat_of a h)).mono js
theorem RdI_R.lit_K (w:World) (d:Array Int) (cs:Array Value) (e:TypeId) (h:cs=d.map qdq):RdI_R (w.alloc (.cells cs e)).heap.size (w.alloc (.cells cs e)) (some ⟨w.heap.size,0,none⟩) d:=(RdI_R.new w d e cs h).mono js
theorem qfp (c:Int) (rs ats:Array (Int×Int)) (R:Option Addr) (c1:Nat) (A2:Option Addr) (c2:Nat) (w:World) (h1:RdK encR 2 w.heap.size w R rs) (h2:RdK qae 2 w.heap.size w A2 ats) :
 Calls prog 92 #[.agg #[.int .i64 c,.slice R rs.size c1,.slice A2 ats.size c2]] w fun e A=>e=.returned (.int .i64 (chkE ⟨c,rs,ats⟩))/\Below w.heap.size w A:=by
 have Q:Hid (∀ W,Below w.heap.size w W->Calls prog 118 #[.slice R rs.size c1] W fun e A=>e=.returned (.int .i64 (qam rs))/\Below W.heap.size W A):=fun W E=>(qdw R c1 rs _ W ((h1.below E).mono E.size)).mono fun _ _ ⟨he,q,hw⟩=>⟨he,by rw [hw];exact qaj (vag _ _) q⟩
 have a6:Hid (ats.size<=400->∀ W,Below w.heap.size w W->Calls prog 93 #[.slice A2 ats.size c2,.int .i64 c,.int .i64 1000000] W fun e A=>e=.returned (.bool (qbr 1000000 c ats.toList))/\Below W.heap.size W A):=fun hs W E=>qmk A2 c2 ats c 1000000 W ((h2.below E).mono E.size) jo
 have b3:=hI h1;have b4:=hI h2;have T:∀ b:Bool,chkB ⟨c,rs,ats⟩=b->chkE ⟨c,rs,ats⟩=if b=true then 0 else 2:=fun b E=>by unfold chkE;rw [E]
 clear h1 h2;by_cases V:c < 0\/1000000 < c\/qam rs≠0\/400 < ats.size\/qbr 1000000 c ats.toList=false
 .have v:Hid (chkE ⟨c,rs,ats⟩=2):=by
   show _=_;rw [T false]
   .rfl
   rw [vbi];intro h;have J:=qco.1 h;have a1:=J.b0;have a2:=J.b1;have a3:=J.rs;have a4:=J.sz;have a5:=J.up;simp only at a1 a2 a3 a4 a5;rcases V with g | g | g | g | g
   .omega
   .omega
   .exact g a3
   .omega
   rw [a5] at g;cases g
  clear T;by_cases q1:c < 0
  .have b6:decide (c < 0)=true:=by simpa using q1
   clear V q1;go_in;go_wp2;go_ret;exact ⟨qag v.out.symm,bel1 w _⟩
  have b6:decide (c < 0)=false:=by simpa using q1
  by_cases q2:1000000 < c
  .have b7:decide (1000000 < c)=true:=by simpa using q2
   clear V q1 q2;go_in;go_wp2;go_ret;exact ⟨qag v.out.symm,bel1 w _⟩
  have b7:decide (1000000 < c)=false:=by simpa using q2
  have HQ:Hid (qam rs≠0\/400 < ats.size\/qbr 1000000 c ats.toList=false):=by
   rcases V with g | g | g
   .exact absurd g q1
   .exact absurd g q2
   exact g
  clear V q1 q2;go_in;go_wp2_with fail;refine (Q.out _ (bel1 w _)).mono ?_;rintro e w1 ⟨rfl,l⟩;obtain ⟨u0,u1,u2⟩:=box3 l;have s:=hI (qaa (bel1 w _) l);have O:=fun p:ats.size<=400=>a6.out p w1 s.out
  have HR:=hI O;clear l O Q;by_cases q3:qam rs=0
  .have b8:(qam rs != 0)=false:=by simpa using q3
   by_cases q4:400 < ats.size
   .have b9:decide ((400:Int) < (ats.size:Int))=true:=by simp;omega
    clear q3 q4;go_wp2;go_ret;exact ⟨qag v.out.symm,s.out⟩
   have b9:decide ((400:Int) < (ats.size:Int))=false:=by simp;omega
   have U:qbr 1000000 c ats.toList=false:=by
    rcases HQ.out with g | g | g
    .exact absurd q3 g
    .exact absurd g q4
    exact g
   have G:=hI (HR.out jo);rw [U] at G;clear q3 U HQ HR;go_wp2_with fail;refine G.out.mono ?_;rintro e w2 ⟨rfl,m⟩;go_wp2;go_ret;exact ⟨qag v.out.symm,qaa s.out m⟩
  have b8:(qam rs != 0)=true:=by simpa using q3
  clear q3 HQ;go_wp2;go_ret;exact ⟨qag v.out.symm,s.out⟩
 obtain ⟨p1,p2,F,p4,p5⟩:0<=c/\c<=1000000/\qam rs=0/\ats.size<=400/\qbr 1000000 c ats.toList=true:=by
  refine ⟨by omega,by omega,Classical.byContradiction fun h=>V (by simp [h]),by omega,?_⟩;cases hr:qbr 1000000 c ats.toList
  .exact absurd (by simp [hr]) V
  rfl
 have X:chkB ⟨c,rs,ats⟩=(decide (0 < rs.size->c + 1 < rs[0]!.1) && !(ats.toList.any fun a=>qbg rs a.1)):=by
  have e:(fun a:Int×Int=>qbg rs a.1)=fun a=>inR rs a.1:=funext fun a=>has_in F a.1
  rw [e];unfold chkB;simp only [F,p5,p4];simp [p1,p2]
 have HA:=hI X;have q1:decide (c < 0)=false:=by simpa using p1
 have q2:decide (1000000 < c)=false:=by simpa using p2
 have q3:(qam rs != 0)=false:=by simpa using F
 have q4:decide ((400:Int) < (ats.size:Int))=false:=by simp;omega
 have H:=hI (a6.out p4);rw [p5] at H;have HW:=hI T;have c4:=hI p4;have c5:=(qcy F).1;have Y:∀ W,Below w.heap.size w W->0 < rs.size->∃ b r,R=some ⟨b,r,none⟩/\W.cell? ⟨b,r,none⟩=some (.int .i64 rs[0]!.1):=fun W E h0=>by
  obtain ⟨b,r,e,_,f⟩:=(b3.out.below E).at_ (i:=0) h0;refine ⟨b,r,e,?_⟩
  have:=f 0 jo
  simpa [encR] using this
 have HN:=hI Y;have b1:Hid (∀ x W,Below w.heap.size w W->Calls prog 182 #[.slice R rs.size c1,.int .i64 x] W fun e A=>e=.returned (.bool (qbg rs x))/\Below W.heap.size W A):=fun x W E=>qnb R c1 rs x _ W ((b3.out.below E).mono E.size)
 have Z:0 < rs.size->1<=rs[0]!.1/\rs[0]!.1<=1000000:=fun h0=>by
  have:=(NL.of_set F).1 rs[0]! (by rw [vae rs 0 h0];simp)
  omega
 have a0:=hI Z;clear V F p5 X T Y Z a6;go_in;go_wp2_with fail;refine (Q.out _ (bel1 w _)).mono ?_;rintro e w1 ⟨rfl,l⟩;obtain ⟨u0,u1,u2⟩:=box3 l;have s:=hI (qaa (bel1 w _) l);have G:=hI (H.out w1 s.out);have n:w.heap.size < w1.heap.size:=by have:=l.size;simp at this;omega
 clear l Q H;go_wp2_with fail;refine G.out.mono ?_;rintro e w2 ⟨rfl,m⟩;have v0:=(m.cell (p:=⟨w.heap.size,0,none⟩) n).trans u0;have v1:=(m.cell (p:=⟨w.heap.size,1,none⟩) n).trans u1;have v2:=(m.cell (p:=⟨w.heap.size,2,none⟩) n).trans u2;have B:w.heap.size < w2.heap.size:=vad n m.size;have S:=hI (qaa s.out m);clear m u0 u1 u2 G n;by_cases U:0 < rs.size
 .obtain ⟨bq,oq,rfl,a9⟩:=HN.out w2 S.out U
  have c0:decide ((0:Int) < (rs.size:Int))=true:=by simp;omega
  obtain ⟨l1,l2⟩:=a0.out U;obtain ⟨lo,b0⟩:∃ lo,rs[0]!.1=lo:=⟨_,rfl⟩
  rw [b0] at a9 l1 l2;have b2:=hI b0;clear b0 HN a0;by_cases q6:lo<=c + 1
  .have c3:decide (lo - 1<=c)=true:=by simp;omega
   have v:Hid (chkE ⟨c,rs,ats⟩=2):=by
    show _=_;rw [HW.out false]
    .rfl
    rw [HA.out,ver]
    left
    rw [vat];intro h
    have:=h U
    rw [b2.out] at this;omega
   clear q6;go_wp2;go_quiet (fail);go_wp2;go_ret;exact ⟨qag v.out.symm,qaj S.out _⟩
  have c3:decide (lo - 1<=c)=false:=by simp;omega
  have o:decide (0 < rs.size->c + 1 < rs[0]!.1)=true:=by
   rw [vbj];intro _;rw [b2.out];omega
  rw [o,vcn] at HA;clear q6 o;go_wp2;go_quiet (fail);obtain ⟨D,y⟩:∃ W,Hid (W=w2.drewN nq):=⟨_,rfl⟩
  have d:Hid (Below w.heap.size w D):=by rw [y.out];exact qaj S.out _
  have I:Hid (w.heap.size < D.heap.size/\D.cell? ⟨w.heap.size,1,none⟩=some (.slice (some ⟨bq,oq,none⟩) rs.size c1)/\D.cell? ⟨w.heap.size,2,none⟩=some (.slice A2 ats.size c2)):=by rw [y.out];exact ⟨B,v1,v2⟩
  clear v0 v1 v2 B;go_wp2
  go_loopw [3] (fun iv wr=>∃ j:Nat,iv=.int .i64 (j:Int)/\j<=ats.size/\(∀ i,i < j->qbg rs ats[i]!.1=false)/\Below D.heap.size D wr) (fun iv _=>ats.size - (intOf iv).toNat)
  case atStart=>exact ⟨0,rfl,vaj _,fun i L=>absurd L jo,by rw [y.out];exact vag _ _⟩
  case round =>
   obtain ⟨j,rfl,hj,hJ,K⟩:=hrel;have HJ:=hI hJ;have C:=hI K;have x1:=(K.cell (p:=⟨w.heap.size,1,none⟩) I.out.1).trans I.out.2.1;have x2:=(K.cell (p:=⟨w.heap.size,2,none⟩) I.out.1).trans I.out.2.2;have M:w.heap.size < wr.heap.size:=vad I.out.1 K.size;clear hJ K;by_cases N:j < ats.size
   .have jz:(j:Int) < (ats.size:Int):=by omega
    obtain ⟨b,r,rfl,a7,f⟩:=(b4.out.below (qaa d.out C.out)).at_ N;have e0:=f 0 jo;have a8:b < wr.heap.size:=vad a7 (qaa d.out C.out).size;obtain ⟨x,P⟩:∃ x,ats[j]!.1=x:=⟨_,rfl⟩
    have HX:=hI P;simp only [vak,qae,vac,P] at e0;clear f P;have p1:=fun p:ExtW wr=>p.cell (a:=⟨w.heap.size,1,none⟩) M x1
    have p2:=fun p:ExtW wr=>p.cell (a:=⟨w.heap.size,2,none⟩) M x2
    have F:=fun p:ExtW wr=>p.cell (a:=⟨b,r + j * 2,none⟩) a8 e0
    have z:∀ p:ExtW wr,Calls prog 182 #[.slice (some ⟨bq,oq,none⟩) rs.size c1,.int .i64 x] p.to fun e A=>e=.returned (.bool (qbg rs x))/\Below p.to.heap.size p.to A:=fun p=>b1.out x p.to (qaa d.out (qaa C.out p.h))
    obtain ⟨t,ht⟩:∃ t,qbg rs x=t:=⟨_,rfl⟩
    rw [ht] at z;have HT:=hI ht;have Q:=hI z;clear ht z;cases t
    .go_wp2_with fail
     refine wprX ?_
     repeat (go_big_quiet_step ((go_at_call 182;exact Calls.ext_of (Q.out _))))
     refine wpQn fun A k=>?_
     have u:=hI k;clear k p1 p2 F;go_wp2;go_roundw
     case rel=>exact ⟨j + 1,by go_num,by omega,(fun i L=>by
      rcases val i j with J | J
      .exact HJ.out i J
      obtain rfl:i=j:=by omega
      rw [HX.out];exact HT.out),qaa C.out u.out⟩
     case measure=>simp [intOf];omega
    have v:Hid (chkE ⟨c,rs,ats⟩=2):=by
     show _=_;rw [HW.out false]
     .rfl
     rw [HA.out,Bool.not_eq_false',vca];exact ⟨ats[j]!,by rw [vae ats j N];simp,by rw [HX.out];exact HT.out⟩
    go_wp2_with fail;refine wprX ?_
    repeat (go_big_quiet_step ((go_at_call 182;exact Calls.ext_of (Q.out _))))
    refine wpQn fun A k=>?_
    have u:=hI k;clear k p1 p2 F;go_wp2;go_ret;exact ⟨qag v.out.symm,qaa d.out (qaa C.out u.out)⟩
   have b5:decide ((j:Int) < (ats.size:Int))=false:=vab jo;have v:Hid (chkE ⟨c,rs,ats⟩=0):=by
    show _=_;rw [HW.out true]
    .rfl
    rw [HA.out,vdv,vdu];intro x P;obtain ⟨i,L,rfl⟩:=vbt.1 P
    have:=HJ.out i (by simp at L;omega)
    rw [vae ats i (by simpa using L)] at this;simpa using this
   go_wp2;go_ret;exact ⟨qag v.out.symm,qaa d.out C.out⟩
 have c0:decide ((0:Int) < (rs.size:Int))=false:=vab jo;have c6:decide (0 < rs.size)=false:=vab U;have o:decide (0 < rs.size->c + 1 < rs[0]!.1)=true:=by
  rw [vbj];intro h;exact absurd h U
 rw [o,vcn] at HA;clear U o HN a0;go_wp2;go_quiet (fail);obtain ⟨D,y⟩:∃ W,Hid (W=w2.drewN nq):=⟨_,rfl⟩
 have d:Hid (Below w.heap.size w D):=by rw [y.out];exact qaj S.out _
 have I:Hid (w.heap.size < D.heap.size/\D.cell? ⟨w.heap.size,1,none⟩=some (.slice R rs.size c1)/\D.cell? ⟨w.heap.size,2,none⟩=some (.slice A2 ats.size c2)):=by rw [y.out];exact ⟨B,v1,v2⟩
 clear v0 v1 v2 B;go_wp2
 go_loopw [3] (fun iv wr=>∃ j:Nat,iv=.int .i64 (j:Int)/\j<=ats.size/\(∀ i,i < j->qbg rs ats[i]!.1=false)/\Below D.heap.size D wr) (fun iv _=>ats.size - (intOf iv).toNat)
 case atStart=>exact ⟨0,rfl,vaj _,fun i L=>absurd L jo,by rw [y.out];exact vag _ _⟩
 case round =>
  obtain ⟨j,rfl,hj,hJ,K⟩:=hrel;have HJ:=hI hJ;have C:=hI K;have x1:=(K.cell (p:=⟨w.heap.size,1,none⟩) I.out.1).trans I.out.2.1;have x2:=(K.cell (p:=⟨w.heap.size,2,none⟩) I.out.1).trans I.out.2.2;have M:w.heap.size < wr.heap.size:=vad I.out.1 K.size;clear hJ K;by_cases N:j < ats.size
  .have jz:(j:Int) < (ats.size:Int):=by omega
   obtain ⟨b,r,rfl,a7,f⟩:=(b4.out.below (qaa d.out C.out)).at_ N;have e0:=f 0 jo;have a8:b < wr.heap.size:=vad a7 (qaa d.out C.out).size;obtain ⟨x,P⟩:∃ x,ats[j]!.1=x:=⟨_,rfl⟩
   have HX:=hI P;simp only [vak,qae,vac,P] at e0;clear f P;have p1:=fun p:ExtW wr=>p.cell (a:=⟨w.heap.size,1,none⟩) M x1
   have p2:=fun p:ExtW wr=>p.cell (a:=⟨w.heap.size,2,none⟩) M x2
   have F:=fun p:ExtW wr=>p.cell (a:=⟨b,r + j * 2,none⟩) a8 e0
   have z:∀ p:ExtW wr,Calls prog 182 #[.slice R rs.size c1,.int .i64 x] p.to fun e A=>e=.returned (.bool (qbg rs x))/\Below p.to.heap.size p.to A:=fun p=>b1.out x p.to (qaa d.out (qaa C.out p.h))
   obtain ⟨t,ht⟩:∃ t,qbg rs x=t:=⟨_,rfl⟩
   rw [ht] at z;have HT:=hI ht;have Q:=hI z;clear ht z;cases t
   .go_wp2_with fail
    refine wprX ?_
    repeat (go_big_quiet_step ((go_at_call 182;exact Calls.ext_of (Q.out _))))
    refine wpQn fun A k=>?_
    have u:=hI k;clear k p1 p2 F;go_wp2;go_roundw
    case rel=>exact ⟨j + 1,by go_num,by omega,(fun i L=>by
     rcases val i j with J | J
     .exact HJ.out i J
     obtain rfl:i=j:=by omega
     rw [HX.out];exact HT.out),qaa C.out u.out⟩
    case measure=>simp [intOf];omega
   have v:Hid (chkE ⟨c,rs,ats⟩=2):=by
    show _=_;rw [HW.out false]
    .rfl
    rw [HA.out,Bool.not_eq_false',vca];exact ⟨ats[j]!,by rw [vae ats j N];simp,by rw [HX.out];exact HT.out⟩
   go_wp2_with fail;refine wprX ?_
   repeat (go_big_quiet_step ((go_at_call 182;exact Calls.ext_of (Q.out _))))
   refine wpQn fun A k=>?_
   have u:=hI k;clear k p1 p2 F;go_wp2;go_ret;exact ⟨qag v.out.symm,qaa d.out (qaa C.out u.out)⟩
  have b5:decide ((j:Int) < (ats.size:Int))=false:=vab jo;have v:Hid (chkE ⟨c,rs,ats⟩=0):=by
   show _=_;rw [HW.out true]
   .rfl
   rw [HA.out,vdv,vdu];intro x P;obtain ⟨i,L,rfl⟩:=vbt.1 P
   have:=HJ.out i (by simp at L;omega)
   rw [vae ats i (by simpa using L)] at this;simpa using this
  go_wp2;go_ret;exact ⟨qag v.out.symm,qaa d.out C.out⟩
theorem qyl (v:Value) (k:KN) (w:World) (h:KnV w v k):Calls prog 92 #[v] w fun e i=>e=.returned (.int .i64 (chkE k))/\Below w.heap.size w i:=by
 obtain ⟨a,c,b,d,rfl,f,g,_,_⟩:=h;exact qfp k.base k.rs k.ats a c b d w f g
theorem qym (v:Value) (k:KN) (t:Int) (w:World) (h:KnV w v k) :
 Calls prog 94 #[v,.int .i64 t] w fun e r=>e=.returned (.bool (hasK k t))/\Below w.heap.size w r:=by
 obtain ⟨a,d,c⟩:=k;obtain ⟨u,x,D,F,rfl,B,G,n1,J⟩:=h;have n:Hid (∀ W,Below w.heap.size w W->Calls prog 92 #[.agg #[.int .i64 a,.slice u d.size x,.slice D c.size F]] W fun e r=>e=.returned (.int .i64 (chkE ⟨a,d,c⟩))/\Below W.heap.size W r):=fun W j=>qfp a d c u x D F W ((B.below j).mono j.size) ((G.below j).mono j.size)
 have y:Hid (∀ W,Below w.heap.size w W->Calls prog 182 #[.slice u d.size x,.int .i64 t] W fun e r=>e=.returned (.bool (qbg d t))/\Below W.heap.size W r):=fun W j=>qnb u x d t _ W ((B.below j).mono j.size)
 have g:=hI (hasB_iff ⟨a,d,c⟩ t);have C:=chkE_eq ⟨a,d,c⟩;clear B G n1 J;generalize chkE ⟨a,d,c⟩=L at C n;generalize qbg d t=I at g y;cases q:chkB ⟨a,d,c⟩
 .rw [q] at C g
  have m:Hid (hasK ⟨a,d,c⟩ t=false):=g.out;clear q g;go_in;go_wp2_with fail;refine (n.out _ (bel1 w _)).mono ?_;rintro e s ⟨rfl,b⟩;go_wp2;go_ret;exact ⟨qad m.out.symm,qaa (bel1 w _) b⟩
 rw [q,vcn] at g;rw [q] at C;clear q;by_cases o:1<=t/\t<=a
 .obtain ⟨E,z⟩:=o
  have A:decide (1<=t)=true:=by simpa using E
  have H:decide (t<=a)=true:=by simpa using z
  have m:Hid (hasK ⟨a,d,c⟩ t=true):=by show _=_;rw [g.out,A];simp [z]
  clear g E z;go_in;go_wp2_with fail;refine (n.out _ (bel1 w _)).mono ?_;rintro e s ⟨rfl,b⟩;obtain ⟨u0,u1,u2⟩:=box3 b;go_wp2;go_ret;exact ⟨qad m.out.symm,qaa (bel1 w _) b⟩
 have m:Hid (hasK ⟨a,d,c⟩ t=I):=by
  show _=_;rw [g.out,<-Bool.decide_and,vab o];rfl
 clear g;by_cases p:1<=t
 .have A:decide (1<=t)=true:=by simpa using p
  have H:decide (t<=a)=false:=vab (fun h=>o ⟨p,h⟩);clear o p;go_in;go_wp2_with fail;refine (n.out _ (bel1 w _)).mono ?_;rintro e s ⟨rfl,b⟩;obtain ⟨u0,u1,u2⟩:=box3 b;have f:=hI (qaa (bel1 w _) b);have i:=hI (y.out s f.out);clear b;go_wp2_with fail;refine i.out.mono ?_;rintro e K ⟨rfl,l⟩;go_wp2;go_ret;exact ⟨qad m.out.symm,qaa f.out l⟩
 have A:decide (1<=t)=false:=vab p;clear o p;go_in;go_wp2_with fail;refine (n.out _ (bel1 w _)).mono ?_;rintro e s ⟨rfl,b⟩;obtain ⟨u0,u1,u2⟩:=box3 b;have f:=hI (qaa (bel1 w _) b);have i:=hI (y.out s f.out);clear b;go_wp2_with fail;refine i.out.mono ?_;rintro e K ⟨rfl,l⟩;go_wp2;go_ret;exact ⟨qad m.out.symm,qaa f.out l⟩
def IdxF (p:Int->Bool) (d:Array Int) (e:Ending):Prop:=∃ r:Int,e=.returned (.int .i64 r)/\((r = -1/\∀ j,j < d.size->p d[j]! = false)\/∃ k0:Nat,r=(k0:Int)/\k0 < d.size/\p d[k0]! = true/\∀ j,j < k0->p d[j]! = false)
theorem qpk {w:World} {a off:Nat} {d:Array Int} (h:HoldsK qen 1 w a off d) {i:Nat} (hi:i < d.size):w.cell? ⟨a,off + i,none⟩=some (.int .i64 d[i]!)/\w.frozen? ⟨a,off + i,none⟩=false:=by
 have:=h.cell (i:=i) (c:=0) hi jd
 simp only [vcq,vak,qen,vac] at this;exact this
theorem intIdx (p:Int->Bool) (g:Nat) (lb:Array Value) (H:∀ f w,(callFunc g f).run prog w=.ok (.enter g f) w) (a off s:Nat) (d:Array Int) (w:World)
 (B:∀ W x,w.grownBy W (some a)->Calls prog g (#[.int .i64 x] ++ lb) W fun e o=>e=.returned (.bool (p x))/\Below W.heap.size W o)
 (z:HoldsK qen 1 w a off d) (u:a < w.heap.size) (G:d.size<=1000000) :
 Calls prog 219 #[.slice (some ⟨a,off,none⟩) d.size s,.func (.func g) #[] lb] w fun e o=>IdxF p d e/\Below w.heap.size w o:=by
 have D:=hI z;have E:=hI B;clear z B;go_in;go_wp2
 go_loopw [8] (fun i wr=>∃ k:Nat,i=.int .i64 k/\k<=d.size/\Hid (∀ j,j < k->p d[j]! = false)/\Hid (Below w.heap.size w wr)) (fun i _=>d.size - (intOf i).toNat)
 case atStart=>exact ⟨0,rfl,vaj _,hI (fun j t=>absurd t jo),hI (vag _ _)⟩
 case round =>
  obtain ⟨k,rfl,I,b,n⟩:=hrel;by_cases l:k < d.size
  .have J:(k:Int) < (d.size:Int):=by omega
   have F:=(n.out.cell (p:=⟨a,off + k,none⟩) u).trans (qpk D.out l).1;have r:=hI (E.out wr d[k]! (qbf n.out _));obtain ⟨x,C⟩:∃ x,d[k]! = x:=⟨_,rfl⟩
   obtain ⟨q,v⟩:∃ q,p d[k]! = q:=⟨_,rfl⟩
   rw [v] at r;have y:=hI v;rw [C] at r F;clear C v;cases q
   .go_wp2_with fail
    refine r.out.mono ?_;rintro e o ⟨rfl,c⟩;have m:=hI (qaa n.out c);clear c;go_wp2;go_roundw
    case rel =>
     refine ⟨k + 1,by go_num,by omega,hI (fun j t=>?_),m⟩;rcases val j k with h | h
     .exact b.out j h
     obtain rfl:j=k:=by omega
     exact y.out
    case measure=>simp [intOf];omega
   go_wp2_with fail;refine r.out.mono ?_;rintro e o ⟨rfl,c⟩;have m:=hI (qaa n.out c);clear c;go_wp2;go_ret;exact ⟨⟨k,rfl,Or.inr ⟨k,rfl,l,y.out,b.out⟩⟩,m.out⟩
  have A:decide ((k:Int) < (d.size:Int))=false:=by simp;omega
  go_wp2;go_ret;exact ⟨⟨-1,rfl,Or.inl ⟨rfl,fun j t=>b.out j jo⟩⟩,n.out⟩
theorem intDel (p:Int->Bool) (g:Nat) (lb:Array Value) (eg:∀ o w,(callFunc g o).run prog w=.ok (.enter g o) w) (a off f:Nat) (d:Array Int) (w:World)
 (Z:∀ W x,w.grownBy W (some a)->Calls prog g (#[.int .i64 x] ++ lb) W fun e M=>e=.returned (.bool (p x))/\Below W.heap.size W M)
 (T:HoldsK qen 1 w a off d) (m:a < w.heap.size) (a0:d.size<=1000000) (a3:d.size<=f) :
 Calls prog 171 #[.slice (some ⟨a,off,none⟩) d.size f,.func (.func g) #[] lb] w fun e M=>e=.returned (.slice (some ⟨a,off,none⟩) (d.toList.filter fun x=>!p x).toArray.size f)/\w.grownBy M (some a)/\RdK qen 1 M.heap.size M (some ⟨a,off,none⟩) (d.toList.filter fun x=>!p x).toArray:=by
 have I:=intIdx p g lb eg a off f d w Z T m a0;obtain ⟨n,D⟩:∃ n:Nat->Bool,Hid (n=fun j=>!p d[j]!):=⟨_,rfl⟩
 have q:(d.toList.filter fun x=>!p x)=keptUpTo n d d.size:=by rw [D.out];exact (keptUpTo_filter (fun x=>!p x) d).symm
 rw [q];have HH:=hI T;have HP:=hI Z;have Q:=hI I;clear T Z I q;go_in;go_wp2_with fail;refine Q.out.mono ?_;rintro e w1 ⟨⟨r,rfl,⟨rfl,c⟩ | ⟨G,rfl,b2,F,c⟩⟩,h⟩
 .have b:∀ j,j < d.size->n j=true:=fun j Y=>by rw [D.out];show (!p d[j]!)=true;rw [c j Y];rfl
  have P:Hid (keptUpTo n d d.size=d.toList):=by show _=_;rw [keptUpTo_all n d _ b,range_map_get]
  clear c b;go_wp2;go_ret;rw [P.out];refine ⟨by simp,qbf h _,?_⟩;have X:=qge HH.out m h
  have:=RdK.of_holds X (B:=w1.heap.size) (vad m h.size)
  simpa using this
 have b:∀ j,j < G->n j=true:=fun j Y=>by rw [D.out];show (!p d[j]!)=true;rw [c j Y];rfl
 have l:n G=false:=by rw [D.out];show (!p d[G]!)=false;rw [F];rfl
 have a4:((G:Int) == -1)=false:=vch.2 jo;have R:=hI (KeptInv.start (d:=d) b l);clear c F b l;have O:=hI h;clear h;go_wp2
 go_loopg [5,6] d.size (fun gg s5 s6 wr=>∃ (i j:Nat) (z:Array Int),s5=.int .i64 i/\s6=.int .i64 j/\j<=d.size/\d.size - j<=gg/\Aside (SrtK qen 1 w a off z wr)/\Aside (KeptInv n d j i z))
 case atStart=>exact ⟨G,G + 1,d,rfl,by go_num,by omega,by omega,(SrtK.refl HH.out m).below O.out,R.out⟩
 case round =>
  obtain ⟨i,j,z,rfl,rfl,b1,a9,v,s⟩:=hrel;have b0:=s.out.lt;have a8:=s.out.size;by_cases K:j < d.size
  .have L:(j:Int) < (d.size:Int):=by omega
   have H:=(qpk v.out.holds (i:=j) jo).1;rw [s.out.high j jo] at H;obtain ⟨u,hu⟩:∃ u,d[j]! = u:=⟨_,rfl⟩
   rw [hu] at H;have C:Aside (d[j]! = u):=hu;clear hu;have A:=hI (HP.out wr u v.out.grown);have a2:(i:Int) < (d.size:Int):=by omega
   cases N:p u with
   | false =>
     rw [N] at A;go_wp2_with fail;refine A.out.mono ?_;rintro e w2 ⟨rfl,k⟩;have U:=v.out.below k;have E:=hI U;have y:=qpk U.holds (i:=i) jo;have S:=y.1;have a6:=y.2;clear U k A y;generalize z[i]! = a5 at S;go_wp2;go_roundg (d.size - (j + 1))
     case measure=>omega
     case rel =>
      refine ⟨i + 1,j + 1,z.setIfInBounds i u,by go_num,by go_num,by omega,vaa _,(show Aside _ from ?_),(show Aside _ from ?_)⟩
      .have:=E.out.put qpf (i:=i) jo u
       show SrtK qen 1 w a off (z.setIfInBounds i u) _;simpa [qen,World.setCells] using this
      have:=s.out.keep K (by rw [D.out];show (!p d[j]!)=true;rw [C.out,N];rfl)
      rwa [C.out] at this
   | true =>
     rw [N] at A;go_wp2_with fail;refine A.out.mono ?_;rintro e w2 ⟨rfl,k⟩;have E:=hI (v.out.below k);clear k A;go_wp2;go_roundg (d.size - (j + 1))
     case measure=>omega
     case rel=>exact ⟨i,j + 1,z,rfl,by go_num,by omega,vaa _,E.out,s.out.skip (by rw [D.out];show (!p d[j]!)=false;rw [C.out,N];rfl)⟩
  obtain rfl:j=d.size:=by omega
  have L:¬ (d.size:Int) < (d.size:Int):=by omega
  have a2:(i:Int) < (d.size:Int):=by omega
  have b5:(i:Int)<=(f:Int):=by omega
  have b3:(f=i)=False:=by simp;omega
  obtain ⟨zs,a1,a7⟩:∃ zs,zs=zs/\∀ ty,(Builtin.clear_ #[26] ty #[.slice (some ⟨a,off + i,none⟩) (d.size - i) (f - i)]).run prog wr=.ok (.tuple #[]) (wr.setCells a (off + i) zs):=by
   refine ⟨_,rfl,fun ty=>qfh wr _ _ ty _ underlying26 zeroValue3 (qho _ _ (by simp [Value.cells,Value.oneCell'])) a (off + i) _ jo (fun t F=>?_) (fun t F=>?_)⟩
   all_goals
    rw [qhn] at F;have b4:t < (d.size - i) * 1:=F;have V:=v.out.holds (i + t) (by rw [size_flatK];omega);rw [<-vdl] at V
   .rw [V.1];rfl
   exact V.2
  have E:=hI v.out;have HI:=hI s.out;clear a1 v s;go_wp2;go_ret;have J:=HI.out.len;refine ⟨?_,?_,?_⟩
  .simp only [J];rfl
  .exact qbu E.out.grown (qed _ _ _ _)
  have:=qvm E.out HI.out zs
  simpa using this
