/- Texts that the law leans on. -/
import Derived.Test.YtjkecckndfcbjaaGreatDoorKPlyC
import Derived.Test.YtjkecckndfcbjaaGreatDoorKRlC
import Derived.Test.YtjkecckndfcbjaaGreatDoorKDrw
import Derived.Test.YtjkecckndfcbjaaGreatDoorKAnyE
import Derived.Test.YtjkecckndfcbjaaGreatDoorKLftA
import Derived.Test.YtjkecckndfcbjaaGreatDoorKErrD
namespace Go.Proofs.YtjkecckndfcbjaaGreatDoor
open Go.RowKit Go.Sort Crc Nb
set_option maxRecDepth 100000
theorem but5 {w W:World} {b:Nat} {v0 v1 v2 v3 v4:Value} (h:But b w W):But b w (((((W.setCell ⟨b,0,none⟩ v0).setCell ⟨b,1,none⟩ v1).setCell ⟨b,2,none⟩ v2).setCell ⟨b,3,none⟩ v3).setCell ⟨b,4,none⟩ v4):=by
 repeat refine But.set ?_ _ _
 exact h
theorem set5 {W:World} {b:Nat} {t:TypeId} {v0 v1 v2 v3 v4 x0 x1 x2 x3 x4:Value} (h:W.heap[b]?=some (.cells #[x0,x1,x2,x3,x4] t (0,0))):(((((W.setCell ⟨b,0,none⟩ v0).setCell ⟨b,1,none⟩ v1).setCell ⟨b,2,none⟩ v2).setCell ⟨b,3,none⟩ v3).setCell ⟨b,4,none⟩ v4).heap[b]?=some (.cells #[v0,v1,v2,v3,v4] t (0,0)):=by
 have h1:=qae (qae (qae (qae (qae h 0 v0) 1 v1) 2 v2) 3 v3) 4 v4
 rw [h1]
 simp only [List.setIfInBounds_toArray,List.set_cons_succ,List.set_cons_zero]
theorem qgd {W:World} {g:Nat} {t:TypeId} {x0 x1 x2 x3 x4:Value} (h:W.heap[g]?=some (.cells #[x0,x1,x2,x3,x4] t (0,0))):W.cell? ⟨g,0,none⟩=some x0∧W.cell? ⟨g,1,none⟩=some x1∧W.cell? ⟨g,2,none⟩=some x2∧W.cell? ⟨g,3,none⟩=some x3∧W.cell? ⟨g,4,none⟩=some x4:=by
 refine ⟨?_,?_,?_,?_,?_⟩ <;> (rw [qad h];rfl)
theorem qlh {W:World} {g:Nat} {t:TypeId} {cs:Array Value} (h:W.heap[g]?=some (.cells cs t (0,0))):W.frozen? ⟨g,0,none⟩=false∧W.frozen? ⟨g,1,none⟩=false∧W.frozen? ⟨g,2,none⟩=false∧W.frozen? ⟨g,3,none⟩=false∧W.frozen? ⟨g,4,none⟩=false:=⟨Lib.frozen_of_heap h 0,Lib.frozen_of_heap h 1,Lib.frozen_of_heap h 2,Lib.frozen_of_heap h 3,Lib.frozen_of_heap h 4⟩
theorem But2.but {w W W':World} {g k b:Nat} (x:But2 g k w W) (y:But b W W') (hb:w.heap.size≤b):But2 g k w W' :=
 ⟨y.os.trans x.os,y.tape.trans x.tape,y.output.trans x.output,Nat.le_trans x.size y.size,fun i hi h1 h2=>(y.block i (Nat.lt_of_lt_of_le hi x.size) (by omega)).trans (x.block i hi h1 h2)⟩
theorem But2.belowB {w W W':World} {g k B:Nat} (x:But2 g k w W) (y:Below B W W') (hB:w.heap.size≤B):But2 g k w W' :=
 ⟨y.os.trans x.os,y.tape.trans x.tape,y.output.trans x.output,Nat.le_trans x.size y.size,fun i hi h1 h2=>(y.block i (by omega)).trans (x.block i hi h1 h2)⟩
theorem qol {P:Program} {w:World} {ops:Array Oper} {o:Oper} {a:Act} {K:Act→World→Prop} {Q:Exit→Act→World→Prop} {E:Prop} (hgd:o.guard=none) (s x:Operand) (t:TypeId)
 (ho:o.op=.call { callee:=.builtin .append,args:=#[s,x],argTypes:=#[t,t] })
 (base:Nat) (e:TypeId) (i:TypeInfo) (z:Value) (size bytes:Nat) (ht:P.underlying t=some (.slice e)) (hi:P.info? e=some i) (hz:i.zero=some z)
 (hsize:i.size=size) (hby:i.bytes=bytes) (hzs:z.cells.size=size) (hsz:0 < size)
 (v:Value) (n:Nat) (xs:List Value) (hs:a.eval s=v) (hown:w.ownsRow base e size v n xs)
 (ad:Addr) (m c:Nat) (news:List Value) (hx:a.eval x=.slice (some ad) m c) (hl:news.length=m * size) (hnews:∀ j u,news[j]?=some u→w.cell? (ad.add j)=some u) (h1:∀ u ∈ news,u.oneCell'=true)
 (h63:n + m≤maxLen) (hbytes:(n + m) * bytes≤140737488355328) (hB:base≤w.heap.size)
 (h:∀ v' w',w'.ownsRow base e size v' (n + m) (xs ++ news)→Below base w w'→K (a.put o.dst v') w') :
 if Region.wanted o (yielded ops a.tmps)=true then Oper.wp P o a w K Q else E:=by
 have hw:Region.wanted o (yielded ops a.tmps)=true:=by simp [Region.wanted,hgd]
 rw [if_pos hw]
 obtain ⟨v',w',hr,h2,h3,_,_⟩:=run_append_own_at (P:=P) w base t o.type e i z size bytes ht hi hz hsize hby hzs hsz v n xs hown ad m c news hl hnews h1 h63 hbytes hB
 unfold Oper.wp execOp
 simp only [ho,resolve,invoke,builtin,Sem.run_bind,Sem.run_pure,Result.andThen_ok,List.map_toArray,List.map_cons,List.map_nil,hs,hx,hr]
 exact h v' w' h2 ((Below.refl base w).grown h3 hB (fun k hk=>(hown.lt k hk).1))
theorem lits_D {w:World} {g:Nat} {xs:List Value} {e:TypeId} (h:w.heap[g]?=some (.cells xs.toArray e (0,0))):∀ j u,xs[j]?=some u→w.cell? ((⟨g,0,none⟩:Addr).add j)=some u:=by
 intro j u hj
 rw [Addr.add_lit,qad h]
 simpa using hj
structure DnQ (w:World) (h g:Nat) (Y:LG) (W:World):Prop where
 x:W.heap[w.heap.size + 1]?=some (.cells (encRL (rlOf Y)).toArray 41 (0,0))
 pr:W.heap[w.heap.size + 2]?=some (.cells #[.string ⟨#[]⟩,.slice none 0 0,.int .i64 0,.string ⟨#[]⟩,.bool false] 45 (0,0))
 lr:W.heap[w.heap.size + 3]?=some (.cells #[.string ⟨#[]⟩,.string ⟨#[]⟩,.string ⟨#[]⟩,.string ⟨#[]⟩,.bool false,.bool false,.int .i64 0,.int .i64 0,.int .i64 0,.bool false,.int .i64 0,.int .i64 0,.int .i64 0,.bool false] 41 (0,0))
 lat:LAt W h g Y
 bt:But2 g h w W
 lth:h < w.heap.size
 ltg:g < w.heap.size
theorem DnQ.but {w W W':World} {h g:Nat} {Y:LG} (x:DnQ w h g Y W) (hb:But (w.heap.size + 4) W W'):DnQ w h g Y W' :=
 ⟨hb.heap x.x (by omega),hb.heap x.pr (by omega),hb.heap x.lr (by omega),x.lat.but hb (by have:=x.ltg;omega) (by have:=x.lth;omega),x.bt.but hb (by omega),x.lth,x.ltg⟩
theorem DnQ.belB {w W W':World} {h g:Nat} {Y:LG} (x:DnQ w h g Y W) (hb:Below (w.heap.size + 5) W W'):DnQ w h g Y W':=by
 have h1:=x.lth
 have h2:=x.ltg
 exact ⟨(hb.block _ (by omega)).trans x.x,(hb.block _ (by omega)).trans x.pr,(hb.block _ (by omega)).trans x.lr,⟨(hb.block _ (by omega)).trans x.lat.box,(hb.block _ (by omega)).trans x.lat.dsk,x.lat.ne⟩,x.bt.belowB hb (by omega),h1,h2⟩
def PsR (w:World) (p:PP) (W:World):Prop:=∃ A c,W.heap[w.heap.size + 4]?=some (.cells #[.string p.st,.slice A (evA p.evs).size c,.int .i64 (p.safe:Int),.string p.torn,.bool p.lost] 45 (0,0))∧W.ownsRow (w.heap.size + 5) 56 2 (.slice A (evA p.evs).size c) (evA p.evs).size (flatK qbm 2 (evA p.evs)).toList
def DnR (w:World) (h g:Nat) (s:PP×LG) (W:World):Prop:=DnQ w h g s.2 W∧PsR w s.1 W
def DoneP (h g:Nat) (s:PP×LG) (w:World) (e:Ending) (w':World):Prop :=
 ∃ A c,e=.returned (.tuple #[.agg #[.string s.1.st,.slice A (evA s.1.evs).size c,.int .i64 (s.1.safe:Int),.string s.1.torn,.bool s.1.lost],rlV (rlOf s.2),.bool true])∧w'.ownsRow w.heap.size 56 2 (.slice A (evA s.1.evs).size c) (evA s.1.evs).size (flatK qbm 2 (evA s.1.evs)).toList∧LAt w' h g s.2∧But2 g h w w'
theorem qur {w W W':World} {h g:Nat} {p:PP} {Y:LG} {S:PP×LG} {A:Option Addr} {c:Nat} {e:Ending} (hS:S=(p,Y)) (x:DnQ w h g Y W) (hr:W.ownsRow (w.heap.size + 5) 56 2 (.slice A (evA p.evs).size c) (evA p.evs).size (flatK qbm 2 (evA p.evs)).toList)
 (hb:∃ V,But (w.heap.size + 2) W V∧But (w.heap.size + 3) V W') (he:e=.returned (.tuple #[.agg #[.string p.st,.slice A (evA p.evs).size c,.int .i64 (p.safe:Int),.string p.torn,.bool p.lost],rlV (rlOf Y),.bool true])):DoneP h g S w e W':=by
 subst hS
 obtain ⟨V,h1,h2⟩:=hb
 have a1:=x.lth
 have a2:=x.ltg
 have o:=hr.lt
 have r1:=qcy hr h1 (by omega) (fun e=>by have:=(o _ e).1;omega)
 have r2:=qcy r1 h2 (by omega) (fun e=>by have:=(o _ e).1;omega)
 exact ⟨A,c,he,qay r2 (by omega),(x.lat.but h1 (by omega) (by omega)).but h2 (by omega) (by omega),(x.bt.but h1 (by omega)).but h2 (by omega)⟩
theorem box5_D (w:World) (o0 o1 o2 o3 o4:Obj):(((((w.alloc o0).alloc o1).alloc o2).alloc o3).alloc o4).heap[w.heap.size + 1]?=some o1∧(((((w.alloc o0).alloc o1).alloc o2).alloc o3).alloc o4).heap[w.heap.size + 2]?=some o2∧(((((w.alloc o0).alloc o1).alloc o2).alloc o3).alloc o4).heap[w.heap.size + 3]?=some o3∧(((((w.alloc o0).alloc o1).alloc o2).alloc o3).alloc o4).heap[w.heap.size + 4]?=some o4:=by
 have e1:(w.alloc o0).heap.size=w.heap.size + 1:=by simp
 have e2:((w.alloc o0).alloc o1).heap.size=w.heap.size + 2:=by simp
 have e3:(((w.alloc o0).alloc o1).alloc o2).heap.size=w.heap.size + 3:=by simp
 have e4:((((w.alloc o0).alloc o1).alloc o2).alloc o3).heap.size=w.heap.size + 4:=by simp
 have h1:=qao (w.alloc o0) o1
 have h2:=qao ((w.alloc o0).alloc o1) o2
 have h3:=qao (((w.alloc o0).alloc o1).alloc o2) o3
 have h4:=qao ((((w.alloc o0).alloc o1).alloc o2).alloc o3) o4
 rw [e1] at h1
 rw [e2] at h2
 rw [e3] at h3
 rw [e4] at h4
 refine ⟨?_,?_,?_,h4⟩
 ·exact (Below.heap_alloc _ _ _ (by simp <;> omega)).trans ((Below.heap_alloc _ _ _ (by simp <;> omega)).trans ((Below.heap_alloc _ _ _ (by simp)).trans h1))
 ·exact (Below.heap_alloc _ _ _ (by simp <;> omega)).trans ((Below.heap_alloc _ _ _ (by simp)).trans h2)
 ·exact (Below.heap_alloc _ _ _ (by simp)).trans h3
set_option maxHeartbeats 16000000 in
theorem qus (l:LG) (rx:RD) (h g B o:Nat) (first:ByteArray) (AA:Option Addr) (cc:Nat) (d:Array AC) (w:World) (hg:Glob w) (X:LAt w h g l) (hBg:B≤g) (hBh:B≤h) (hrd:RdK qlq 13 B w AA d)
 (hdv:DV 0 o (zP first,l)) (ho:o≤900000000) (hd:d.size≤40) (hez:∀ i,i < d.size→d[i]!.e.2.size≤3000) :
 Calls Tryz.prog 12 #[.pointer (some ⟨h,0,none⟩),.pointer (some ⟨g,0,none⟩),rdV (rdOf l.d),rlV ⟨rx,l.file,l.ep,l.sq,l.shut⟩,.string first,.slice AA d.size cc] w (DoneP h g (runD (zP first,l) d.toList) w):=by
 have hlh:=X.lth
 have hlg:=X.ltg
 have HX:=hI X
 have HGB:=hI (fun (W:World) (hb:But2 g h w W)=>hg.but2 X hb)
 have HRD:=hI hrd
 have HEZ:=hI hez
 have HDVA:Hid (∀ k,k≤d.size→DV k o (runD (zP first,l) (d.toList.take k))):=fun k hk=>by
  have hl:(d.toList.take k).length=k:=by rw [List.length_take];simp;omega
  have:=qlx hdv (d.toList.take k) (by omega)
  rw [hl,Nat.zero_add] at this
  exact this
 have HS0:Hid (runD (zP first,l) (d.toList.take 0)=(zP first,l)):=rfl
 have HRL:Hid (rlOf l=⟨rdOf l.d,l.file,l.ep,l.sq,l.shut⟩):=rfl
 generalize hs0:((zP first,l):PP×LG)=s0 at HDVA HS0 ⊢
 obtain ⟨r0,hr0⟩:∃ r,rdOf l.d=r:=⟨_,rfl⟩
 rw [hr0] at HRL ⊢
 clear hez hrd hdv X hg hr0
 obtain ⟨oa,ob,oc,oe,oh,ok,oR,oO,oM,oD⟩:=r0
 obtain ⟨oa9,ob9,oc9,oe9,oh9,ok9,oR9,oO9,oM9,oD9⟩:=rx
 obtain ⟨ld,of,op,oq,os⟩:=l
 dsimp only at HRL ⊢
 rw [qch]
 unfold rdV qcc
 dsimp only
 go_enter Tryz.func12,Tryz.ntmps12
 go_wp2
 go_loopw [16] (fun iv wr=>∃ k:Nat,iv=.int .i64 (k:Int)∧k≤d.size∧Hid (DnR w h g (runD s0 (d.toList.take k)) wr)) (fun i _=>d.size - (intOf i).toNat)
 case atStart =>
  obtain ⟨b1,b2,b3,b4⟩:=box5_D w (.cells #[.string oa,.string ob,.string oc,.string oe,.bool oh,.bool ok,.int .i64 (oR:Int),.int .i64 (oO:Int),.int .i64 (oM:Int),.bool oD] 33) (.cells #[.string oa,.string ob,.string oc,.string oe,.bool oh,.bool ok,.int .i64 (oR:Int),.int .i64 (oO:Int),.int .i64 (oM:Int),.bool oD,.int .i64 (of:Int),.int .i64 (op:Int),.int .i64 (oq:Int),.bool os] 41) (.cells #[.string ⟨#[]⟩,.slice none 0 0,.int .i64 0,.string ⟨#[]⟩,.bool false] 45) (.cells #[.string ⟨#[]⟩,.string ⟨#[]⟩,.string ⟨#[]⟩,.string ⟨#[]⟩,.bool false,.bool false,.int .i64 0,.int .i64 0,.int .i64 0,.bool false,.int .i64 0,.int .i64 0,.int .i64 0,.bool false] 41) (.cells #[.string first,.slice none 0 0,.int .i64 0,.string ⟨#[]⟩,.bool false] 45)
  have hbl:Below w.heap.size w (((((w.alloc (.cells #[.string oa,.string ob,.string oc,.string oe,.bool oh,.bool ok,.int .i64 (oR:Int),.int .i64 (oO:Int),.int .i64 (oM:Int),.bool oD] 33)).alloc (.cells #[.string oa,.string ob,.string oc,.string oe,.bool oh,.bool ok,.int .i64 (oR:Int),.int .i64 (oO:Int),.int .i64 (oM:Int),.bool oD,.int .i64 (of:Int),.int .i64 (op:Int),.int .i64 (oq:Int),.bool os] 41)).alloc (.cells #[.string ⟨#[]⟩,.slice none 0 0,.int .i64 0,.string ⟨#[]⟩,.bool false] 45)).alloc (.cells #[.string ⟨#[]⟩,.string ⟨#[]⟩,.string ⟨#[]⟩,.string ⟨#[]⟩,.bool false,.bool false,.int .i64 0,.int .i64 0,.int .i64 0,.bool false,.int .i64 0,.int .i64 0,.int .i64 0,.bool false] 41)).alloc (.cells #[.string first,.slice none 0 0,.int .i64 0,.string ⟨#[]⟩,.bool false] 45)):=qab (qab (qab (qab (bel1 w _) _) _) _) _
  refine ⟨0,rfl,Nat.zero_le _,?_⟩
  rw [HS0.out,←hs0]
  exact ⟨⟨by rw [HRL.out];exact b1,b2,b3,HX.out.below hbl,But2.of hbl,hlh,hlg⟩,none,0,b4,qcn _ _⟩
 case round =>
  obtain ⟨k,rfl,hk,HDR⟩:=hrel
  clear HRL HX hs0 HS0
  obtain ⟨S,hS⟩:∃ S,runD s0 (d.toList.take k)=S:=⟨_,rfl⟩
  have HDV:=hI (HDVA.out k hk)
  have HDR0:=HDR
  rw [hS] at HDR HDV
  obtain ⟨⟨st,evs,sf,tn,lo⟩,lg⟩:=S
  have HSK:=hI hS
  have HSS:Hid (lg.shut=true→runD s0 d.toList=(⟨st,evs,sf,tn,lo⟩,lg)):=fun hx=>by
   have:=runD_stop (s:=s0) (la:=d.toList) (i:=k) (by rw [hS];exact hx)
   rw [this,hS]
  obtain ⟨hq,A,c,hdp,hrow⟩:=HDR.out
  dsimp only at hq hdp hrow
  have HQ:=hI hq
  have HDP:=hI hdp
  have HROW:=hI hrow
  have HCL:=hI (qyu lg h g wr hq.lat)
  have HGL:=hI (HGB.out wr hq.bt)
  obtain ⟨lo1,hlo1⟩:∃ y,rlOf lg=y:=⟨_,rfl⟩
  have hdx:=hq.x
  rw [hlo1] at hdx
  have HLO:=hI hlo1
  have HQS:Hid (lo1.shut=lg.shut∧lo1.sq=lg.sq∧lo1.ep=lg.ep):=by show _∧_∧_;rw [←hlo1];exact ⟨rfl,rfl,rfl⟩
  clear hlo1 HDR hS hrow
  obtain ⟨⟨oa0,ob0,oc0,oe0,oh0,ok0,oR0,oO0,oM0,oD0⟩,of0,op0,oq0,os0⟩:=lo1
  unfold encRL at hdx
  dsimp only at hdx HQS
  have hqs:=HQS.out.1
  rw [←hqs] at HCL HSS
  have HDX:=hI hdx
  have hlz:w.heap.size + 5≤wr.heap.size:=by have:=qaa hdp;omega
  obtain ⟨p0,p1,p2,p3,p4,p5,p6,p7,p8,p9,p10,p11,p12,p13⟩:=qaf hdx
  obtain ⟨m0,m1,m2,m3,m4⟩:=qgd hdp
  clear hq hdx hdp hqs
  by_cases hlt:k < d.size
  rotate_left
  ·have kz:decide ((k:Int) < (d.size:Int))=false:=decide_eq_false (by omega)
   have kz':decide (k < d.size)=false:=decide_eq_false (by omega)
   have HFN:Hid (runD s0 d.toList=(⟨st,evs,sf,tn,lo⟩,lg)):=by show _=_;rw [←HSK.out,List.take_of_length_le (by simp <;> omega)]
   clear HSS hlt HDV
   obtain ⟨y0,y1,y2,y3,y4,y5,y6,y7,y8,y9,y10,y11,y12,y13⟩:=qaf HQ.out.lr
   obtain ⟨z0,z1,z2,z3,z4,z5,z6,z7,z8,z9,z10,z11,z12,z13⟩:=qal HQ.out.lr
   obtain ⟨r0,r1,r2,r3,r4⟩:=qgd HQ.out.pr
   obtain ⟨t0,t1,t2,t3,t4⟩:=qlh HQ.out.pr
   go_wp2_with (go_at_call 31;refine HCL.out.mono ?_;rintro _ _ ⟨rfl,rfl⟩)
   go_region
   go_wp2
   refine bodyPost_ret (v:=.tuple #[.agg #[.string st,.slice A (evA (evs)).size c,.int .i64 (sf:Int),.string tn,.bool lo],.agg #[.string oa0,.string ob0,.string oc0,.string oe0,.bool oh0,.bool ok0,.int .i64 (oR0:Int),.int .i64 (oO0:Int),.int .i64 (oM0:Int),.bool oD0,.int .i64 (of0:Int),.int .i64 (op0:Int),.int .i64 (oq0:Int),.bool os0],.bool true]) (by simp [results,Tryz.results12,go_sem,y0,y1,y2,y3,y4,y5,y6,y7,y8,y9,y10,y11,y12,y13,r0,r1,r2,r3,r4]) rfl ?_
   exact qur HFN.out HQ.out HROW.out ⟨_,but5 (But.refl _ _),(qjz (But.refl _ _)).drew⟩ (by rw [HLO.out];rfl)
  have kz:(k:Int) < (d.size:Int):=by omega
  cases os0
  rotate_left
  ·have HFN:=hI (HSS.out rfl)
   clear HSS hlt HDV
   obtain ⟨y0,y1,y2,y3,y4,y5,y6,y7,y8,y9,y10,y11,y12,y13⟩:=qaf HQ.out.lr
   obtain ⟨z0,z1,z2,z3,z4,z5,z6,z7,z8,z9,z10,z11,z12,z13⟩:=qal HQ.out.lr
   obtain ⟨r0,r1,r2,r3,r4⟩:=qgd HQ.out.pr
   obtain ⟨t0,t1,t2,t3,t4⟩:=qlh HQ.out.pr
   go_wp2_with (go_at_call 31;refine HCL.out.mono ?_;rintro _ _ ⟨rfl,rfl⟩)
   go_region
   go_wp2
   refine bodyPost_ret (v:=.tuple #[.agg #[.string st,.slice A (evA (evs)).size c,.int .i64 (sf:Int),.string tn,.bool lo],.agg #[.string oa0,.string ob0,.string oc0,.string oe0,.bool oh0,.bool ok0,.int .i64 (oR0:Int),.int .i64 (oO0:Int),.int .i64 (oM0:Int),.bool oD0,.int .i64 (of0:Int),.int .i64 (op0:Int),.int .i64 (oq0:Int),.bool true],.bool true]) (by simp [results,Tryz.results12,go_sem,y0,y1,y2,y3,y4,y5,y6,y7,y8,y9,y10,y11,y12,y13,r0,r1,r2,r3,r4]) rfl ?_
   exact qur HFN.out HQ.out HROW.out ⟨_,but5 (But.refl _ _),(qjz (But.refl _ _)).drew⟩ (by rw [HLO.out];rfl)
  clear HSS
  have hdw:Below B w wr:=HQ.out.bt.below (Below.refl B w) hBg hBh (by omega)
  obtain ⟨b2,off,rfl,hbl,fr⟩:=(HRD.out.below hdw).at_ (i:=k) hlt
  have hxz:=HEZ.out k hlt
  have f0:=fr 0 (by omega)
  have f1:=fr 1 (by omega)
  have f2:=fr 2 (by omega)
  have f3:=fr 3 (by omega)
  have f4:=fr 4 (by omega)
  have f5:=fr 5 (by omega)
  have f6:=fr 6 (by omega)
  have f7:=fr 7 (by omega)
  have f8:=fr 8 (by omega)
  have f9:=fr 9 (by omega)
  have f10:=fr 10 (by omega)
  have f11:=fr 11 (by omega)
  have f12:=fr 12 (by omega)
  have HIV:=hI HDV.out.iv
  have HOPS:=hI HDV.out.ops
  have hkl:k < d.toList.length:=by simpa using hlt
  have HXK:Hid (d.toList[k]=d[k]!):=by show _=_;rw [getElem!_pos d k hlt];rfl
  have HST:Hid (runD s0 (d.toList.take (k + 1))=qji (⟨st,evs,sf,tn,lo⟩,lg) d[k]!):=by show _=_;rw [runD_take hkl,HSK.out,HXK.out]
  have HPL:=hI (fun (W:World) (hb:Below wr.heap.size wr W) (hk3:d[k]!.k=0∨d[k]!.k=1∨d[k]!.k=2)=>play_any lg d[k]! h g W (HGL.out.below hb) (HQ.out.lat.below hb) HIV.out.ok (by have:=HOPS.out;dsimp only at this;omega) HIV.out.file (by have:=(HIV.out.live HQS.out.1.symm).1;have:=HIV.out.few;dsimp only at *;omega) (by have:=HIV.out.ep2;dsimp only at this;omega) (by omega) hk3)
  clear fr hdw HDV HXK HSK hkl
  generalize d[k]! = x at f0 f1 f2 f3 f4 f5 f6 f7 f8 f9 f10 f11 f12 hxz HST HPL
  obtain ⟨xk,⟨xe1,xe2⟩,xtx,xok,xn,xot,⟨xka,xta,xra⟩,⟨xkb,xtb,xrb⟩⟩:=x
  simp only [qlq,Nat.add_zero,List.getElem!_cons_zero,List.getElem!_cons_succ] at f0 f1 f2 f3 f4 f5 f6 f7 f8 f9 f10 f11 f12
  dsimp only at hxz HST HPL
  by_cases hk3:xk=0∨xk=1∨xk=2
  rotate_left
  ·as_aux_lemma =>
    have g0:(xk != 0)=true:=by simp;omega
    have g1:(xk != 1)=true:=by simp;omega
    have g2:(xk != 2)=true:=by simp;omega
    have HDN:Hid (DnR w h g (runD s0 (d.toList.take (k + 1))) wr):=by
     show DnR _ _ _ _ _
     rw [HST.out]
     unfold qji
     rw [if_neg (by rw [←HQS.out.1];simp),if_pos (by dsimp only;omega)]
     exact ⟨HQ.out,A,c,HDP.out,HROW.out⟩
    clear HST HPL hk3
    go_wp2_with (go_at_call 31;refine HCL.out.mono ?_;rintro _ _ ⟨rfl,rfl⟩)
    go_roundw
    case rel=>exact ⟨k + 1,by go_num,by omega,HDN⟩
    case measure=>simp [intOf];omega
  obtain ⟨Y,hY⟩:∃ Y,(actG lg xk (xe1,xe2) xtx).1=Y:=⟨_,rfl⟩
  have HST3:Hid (runD s0 (d.toList.take (k + 1))=(qig ⟨st,evs,sf,tn,lo⟩ lg xk (xe1,xe2) xtx,Y)):=by
   show _=_
   rw [HST.out]
   unfold qji
   rw [if_neg (by rw [←HQS.out.1];simp),if_neg (by dsimp only;omega)]
   dsimp only
   rw [hY]
  obtain ⟨ly,hly⟩:∃ y,rlOf Y=y:=⟨_,rfl⟩
  have HLY:=hI hly
  have HYS:Hid (Y.shut=ly.shut∧Y.sq=ly.sq∧Y.ep=ly.ep):=by show _∧_∧_;rw [←hly];exact ⟨rfl,rfl,rfl⟩
  obtain ⟨⟨na,nb,nc,ne,nh,nk,nR,nO,nM,nD⟩,nf,np,nq,ns⟩:=ly
  dsimp only at HYS
  have HDQ:Hid (qig ⟨st,evs,sf,tn,lo⟩ lg xk (xe1,xe2) xtx=if xk=0 then (if oq0 < nq∨ns=true then ⟨st,evs ++ [(xe1,xe2)],sf,tn,lo⟩ else ⟨st,evs,sf,tn,lo⟩) else if xk=1 then (if ns=true then ⟨st,evs,sf,tn,lo⟩ else ⟨st,evs,evs.length,tn,lo⟩) else if op0 < np then zP xtx else if ns=true then ⟨st,evs,sf,xtx,true⟩ else ⟨st,evs,sf,tn,lo⟩):=by
   show _=_
   unfold qig
   rw [hY,HYS.out.1,HYS.out.2.1,HYS.out.2.2,←HQS.out.2.1,←HQS.out.2.2]
  have HPL:=hI (fun W hb=>HPL.out W hb hk3)
  unfold qse at HPL
  rw [hY,hly,HLO.out] at HPL
  rw [qch,qch] at HPL
  simp only [qlq] at HPL
  clear hly hY HST HYS
  go_upto_region 6 with (go_at_call 31;refine HCL.out.mono ?_;rintro _ _ ⟨rfl,rfl⟩)
  go_cut [57] from 36 to 57 (fun v wx=>v=.bool false∧wx=wr)
  case first =>
   rcases hk3 with rfl | rfl | rfl
   all_goals go_wp2
   all_goals (go_meet;exact ⟨rfl,rfl⟩)
  case rest =>
   obtain ⟨rfl,hw2⟩:=hcut
   have hw3:=hw2.symm
   clear hw2
   subst hw3
   have hbw:b2 < wr.heap.size:=by omega
   have hxw:w.heap.size + 1 < wr.heap.size:=by omega
   go_upto_region 7 with fail
   go_cut [17,18,19] from 58 to 69 (fun _ v18 v19 wx=>∃ m,v18=.pointer (some ⟨m,0,none⟩)∧v19=.bool true∧Hid (wr.heap.size≤m∧wx.heap[m]?=some (.cells #[.string na,.string nb,.string nc,.string ne,.bool nh,.bool nk,.int .i64 (nR:Int),.int .i64 (nO:Int),.int .i64 (nM:Int),.bool nD,.int .i64 (nf:Int),.int .i64 (np:Int),.int .i64 (nq:Int),.bool ns] 41 (0,0))∧LAt wx h g Y∧But2 g h wr wx))
   case first =>
    (try go_wp2_with fail)
    refine qfv (S:=fun W=>But2 g h wr W) (by kernel_rfl) ?_
    have hbe0:Below wr.heap.size wr wr.drew:=(Below.refl _ wr).drew
    have hbd0:But2 g h wr wr.drew:=(But2.refl g h wr).drew2
    have hgG:=HQ.out.ltg
    have hhG:=HQ.out.lth
    have CB:Hid (∀ W,But2 g h wr W→∀ {i:Nat} {v:Value},wr.cell? ⟨b2,i,none⟩=some v→W.cell? ⟨b2,i,none⟩=some v):=fun W hW _ _ hc=>(hW.cellA (by show b2 < _;exact hbw) (by show b2≠g;omega) (by show b2≠h;omega)).trans hc
    refine qbg (some 59) (i:=0) (v:=?_) rfl rfl (by kernel_rfl) (by kernel_rfl) (by kernel_rfl) (by kernel_rfl) (fun _ _ _ h=>h) (Or.inl ⟨by rfl,?_⟩) hbd0 ?_
    rotate_left
    ·(intro W hW;go_simp;with_reducible rfl)
    simp only [Act.put,List.setIfInBounds_toArray,List.set_cons_zero,List.set_cons_succ]
    refine qbg (some 60) (i:=1) (v:=?_) rfl rfl (by kernel_rfl) (by kernel_rfl) (by kernel_rfl) (by kernel_rfl) (fun _ _ _ h=>h) (Or.inl ⟨by rfl,?_⟩) hbd0 ?_
    rotate_left
    ·(intro W hW;go_simp;with_reducible rfl)
    simp only [Act.put,List.setIfInBounds_toArray,List.set_cons_zero,List.set_cons_succ]
    refine qbg (some 61) (i:=2) (v:=?_) rfl rfl (by kernel_rfl) (by kernel_rfl) (by kernel_rfl) (by kernel_rfl) (fun _ _ _ h=>h) (Or.inl ⟨by rfl,?_⟩) hbd0 ?_
    rotate_left
    ·(intro W hW;obtain ⟨P0,P1,P2,P3,P4,P5,P6,P7,P8,P9,P10,P11,P12,P13⟩:=qaf (hW.heap HDX.out (by omega) (by omega));go_simp;with_reducible rfl)
    simp only [Act.put,List.setIfInBounds_toArray,List.set_cons_zero,List.set_cons_succ]
    refine qbg (some 62) (i:=3) (v:=?_) rfl rfl (by kernel_rfl) (by kernel_rfl) (by kernel_rfl) (by kernel_rfl) (fun _ _ _ h=>h) (Or.inl ⟨by rfl,?_⟩) hbd0 ?_
    rotate_left
    ·(intro W hW;go_simp;with_reducible rfl)
    simp only [Act.put,List.setIfInBounds_toArray,List.set_cons_zero,List.set_cons_succ]
    refine qbg (some 63) (i:=4) (v:=?_) rfl rfl (by kernel_rfl) (by kernel_rfl) (by kernel_rfl) (by kernel_rfl) (fun _ _ _ h=>h) (Or.inl ⟨by rfl,?_⟩) hbd0 ?_
    rotate_left
    ·(intro W hW;go_simp;with_reducible rfl)
    simp only [Act.put,List.setIfInBounds_toArray,List.set_cons_zero,List.set_cons_succ]
    refine qbg (some 64) (i:=5) (v:=?_) rfl rfl (by kernel_rfl) (by kernel_rfl) (by kernel_rfl) (by kernel_rfl) (fun _ _ _ h=>h) (Or.inl ⟨by rfl,?_⟩) hbd0 ?_
    rotate_left
    ·(intro W hW;go_simp;with_reducible rfl)
    simp only [Act.put,List.setIfInBounds_toArray,List.set_cons_zero,List.set_cons_succ]
    refine qbg (some 65) (i:=6) (v:=?_) rfl rfl (by kernel_rfl) (by kernel_rfl) (by kernel_rfl) (by kernel_rfl) (fun _ _ _ h=>h) (Or.inl ⟨by rfl,?_⟩) hbd0 ?_
    rotate_left
    ·(intro W hW;have F0:=CB.out W hW f0;have F1:=CB.out W hW f1;have F2:=CB.out W hW f2;have F3:=CB.out W hW f3;have F4:=CB.out W hW f4;have F5:=CB.out W hW f5;have F6:=CB.out W hW f6;have F7:=CB.out W hW f7;have F8:=CB.out W hW f8;have F9:=CB.out W hW f9;have F10:=CB.out W hW f10;have F11:=CB.out W hW f11;have F12:=CB.out W hW f12;go_simp;with_reducible rfl)
    simp only [Act.put,List.setIfInBounds_toArray,List.set_cons_zero,List.set_cons_succ]
    refine qbr (rs:=[7,12]) (by kernel_rfl) (by simp) (AllReadyT.cons rfl (fun K hK=>?_) (AllReadyT.cons rfl (fun K hK=>?_) AllReadyT.nil))
    ·go_simp
     refine (HPL.out _ hbe0).mono ?_
     rintro e w6 ⟨rfl,hlat6,hbt6⟩
     have HL6:=hI hlat6
     have HB6:Hid (But2 g h wr w6):=hbd0.trans hbt6
     clear hlat6 hbt6
     refine hK.out _ _ HB6.out (fun _=>?_)
     clear hK K
     refine qbg (some 58) (i:=8) (v:=?_) rfl rfl (by kernel_rfl) (by kernel_rfl) (by kernel_rfl) (by kernel_rfl) (fun _ _ _ h=>h) (Or.inl ⟨by rfl,?_⟩) HB6.out ?_
     rotate_left
     ·(intro W hW;go_simp;with_reducible rfl)
     simp only [Act.put,List.setIfInBounds_toArray,List.set_cons_zero,List.set_cons_succ]
     refine qbg (some 67) (i:=9) (v:=?_) rfl rfl (by kernel_rfl) (by kernel_rfl) (by kernel_rfl) (by kernel_rfl) (fun _ _ _ h=>h) (Or.inl ⟨by rfl,?_⟩) HB6.out ?_
     rotate_left
     ·(intro W hW;go_simp;with_reducible rfl)
     simp only [Act.put,List.setIfInBounds_toArray,List.set_cons_zero,List.set_cons_succ]
     refine qbg (some 68) (i:=10) (v:=?_) rfl rfl (by kernel_rfl) (by kernel_rfl) (by kernel_rfl) (by kernel_rfl) (fun _ _ _ h=>h) (Or.inl ⟨by rfl,?_⟩) HB6.out ?_
     rotate_left
     ·(intro W hW;go_simp;with_reducible rfl)
     simp only [Act.put,List.setIfInBounds_toArray,List.set_cons_zero,List.set_cons_succ]
     refine qbg (some 69) (i:=11) (v:=?_) rfl rfl (by kernel_rfl) (by kernel_rfl) (by kernel_rfl) (by kernel_rfl) (fun _ _ _ h=>h) (Or.inl ⟨by rfl,?_⟩) HB6.out ?_
     rotate_left
     ·(intro W hW;go_simp;with_reducible rfl)
     simp only [Act.put,List.setIfInBounds_toArray,List.set_cons_zero,List.set_cons_succ]
     refine qbr (rs:=[12]) (by kernel_rfl) (by simp) (AllReadyT.cons rfl (fun K hK=>?_) AllReadyT.nil)
     go_simp
     refine hK.out _ _ (HB6.out.trans (But2.of (bel1 w6 _))) (fun _=>?_)
     clear hK K
     refine qbg (some 17) (i:=13) (v:=?_) rfl rfl (by kernel_rfl) (by kernel_rfl) (by kernel_rfl) (by kernel_rfl) (fun _ _ _ h=>h) (Or.inl ⟨by rfl,?_⟩) (HB6.out.trans (But2.of (bel1 w6 _))) ?_
     rotate_left
     ·(intro W hW;go_simp;with_reducible rfl)
     simp only [Act.put,List.setIfInBounds_toArray,List.set_cons_zero,List.set_cons_succ]
     refine qbr (rs:=[14]) (by kernel_rfl) (by simp) (AllReadyT.cons rfl (fun K hK=>?_) AllReadyT.nil)
     go_simp
     refine hK.out _ _ (HB6.out.trans (But2.of (bel1 w6 _))) (fun _=>?_)
     clear hK K
     refine qbg (some 19) (i:=15) (v:=?_) rfl rfl (by kernel_rfl) (by kernel_rfl) (by kernel_rfl) (by kernel_rfl) (fun _ _ _ h=>h) (Or.inl ⟨by rfl,?_⟩) (HB6.out.trans (But2.of (bel1 w6 _))) ?_
     rotate_left
     ·(intro W hW;go_simp;with_reducible rfl)
     simp only [Act.put,List.setIfInBounds_toArray,List.set_cons_zero,List.set_cons_succ]
     refine qfu (by kernel_rfl) ?_ _
     (try go_wp2)
     (go_meet;refine ⟨w6.heap.size,?_,rfl,?_⟩;(· with_reducible rfl);exact hI ⟨HB6.out.size,qao w6 _,HL6.out.below (bel1 w6 _),HB6.out.trans (But2.of (bel1 w6 _))⟩)
    ·go_simp
     have hbA:Below wr.heap.size wr (wr.drew.alloc (.cells #[.string ⟨#[]⟩,.string ⟨#[]⟩,.string ⟨#[]⟩,.string ⟨#[]⟩,.bool false,.bool false,.int .i64 0,.int .i64 0,.int .i64 0,.bool false,.int .i64 0,.int .i64 0,.int .i64 0,.bool false] 41)):=qab hbe0 _
     refine hK.out _ _ (But2.of hbA) (fun _=>?_)
     clear hK K
     refine qbr (rs:=[7]) (by kernel_rfl) (by simp) (AllReadyT.cons rfl (fun K hK=>?_) AllReadyT.nil)
     go_simp
     refine (HPL.out _ hbA).mono ?_
     rintro e w6 ⟨rfl,hlat6,hbt6⟩
     have HL6:=hI hlat6
     have HB6:Hid (But2 g h wr w6):=(But2.of hbA).trans hbt6
     have HM6:Hid (w6.heap[wr.heap.size]?=some (.cells #[.string ⟨#[]⟩,.string ⟨#[]⟩,.string ⟨#[]⟩,.string ⟨#[]⟩,.bool false,.bool false,.int .i64 0,.int .i64 0,.int .i64 0,.bool false,.int .i64 0,.int .i64 0,.int .i64 0,.bool false] 41 (0,0))):=hbt6.heapK (qao wr.drew _) (by omega) (by omega)
     clear hlat6 hbt6
     refine hK.out _ _ HB6.out (fun _=>?_)
     clear hK K
     refine qbg (some 58) (i:=8) (v:=?_) rfl rfl (by kernel_rfl) (by kernel_rfl) (by kernel_rfl) (by kernel_rfl) (fun _ _ _ h=>h) (Or.inl ⟨by rfl,?_⟩) HB6.out ?_
     rotate_left
     ·(intro W hW;go_simp;with_reducible rfl)
     simp only [Act.put,List.setIfInBounds_toArray,List.set_cons_zero,List.set_cons_succ]
     refine qbg (some 67) (i:=9) (v:=?_) rfl rfl (by kernel_rfl) (by kernel_rfl) (by kernel_rfl) (by kernel_rfl) (fun _ _ _ h=>h) (Or.inl ⟨by rfl,?_⟩) HB6.out ?_
     rotate_left
     ·(intro W hW;go_simp;with_reducible rfl)
     simp only [Act.put,List.setIfInBounds_toArray,List.set_cons_zero,List.set_cons_succ]
     refine qbg (some 68) (i:=10) (v:=?_) rfl rfl (by kernel_rfl) (by kernel_rfl) (by kernel_rfl) (by kernel_rfl) (fun _ _ _ h=>h) (Or.inl ⟨by rfl,?_⟩) HB6.out ?_
     rotate_left
     ·(intro W hW;go_simp;with_reducible rfl)
     simp only [Act.put,List.setIfInBounds_toArray,List.set_cons_zero,List.set_cons_succ]
     refine qbg (some 69) (i:=11) (v:=?_) rfl rfl (by kernel_rfl) (by kernel_rfl) (by kernel_rfl) (by kernel_rfl) (fun _ _ _ h=>h) (Or.inl ⟨by rfl,?_⟩) HB6.out ?_
     rotate_left
     ·(intro W hW;go_simp;with_reducible rfl)
     simp only [Act.put,List.setIfInBounds_toArray,List.set_cons_zero,List.set_cons_succ]
     obtain ⟨y0,y1,y2,y3,y4,y5,y6,y7,y8,y9,y10,y11,y12,y13⟩:=qaf HM6.out
     obtain ⟨z0,z1,z2,z3,z4,z5,z6,z7,z8,z9,z10,z11,z12,z13⟩:=qal HM6.out
     refine qbg (some 17) (i:=13) (v:=?_) rfl rfl (by kernel_rfl) (by kernel_rfl) (by kernel_rfl) (by kernel_rfl) (fun _ _ _ h=>h) (Or.inl ⟨by rfl,?_⟩) HB6.out ?_
     rotate_left
     ·(intro W hW;go_simp;with_reducible rfl)
     simp only [Act.put,List.setIfInBounds_toArray,List.set_cons_zero,List.set_cons_succ]
     refine qbr (rs:=[14]) (by kernel_rfl) (by simp) (AllReadyT.cons rfl (fun K hK=>?_) AllReadyT.nil)
     go_simp
     refine hK.out _ _ (qpg HB6.out (Nat.le_refl _)) (fun _=>?_)
     clear hK K
     refine qbg (some 19) (i:=15) (v:=?_) rfl rfl (by kernel_rfl) (by kernel_rfl) (by kernel_rfl) (by kernel_rfl) (fun _ _ _ h=>h) (Or.inl ⟨by rfl,?_⟩) (qpg HB6.out (Nat.le_refl _)) ?_
     rotate_left
     ·(intro W hW;go_simp;with_reducible rfl)
     simp only [Act.put,List.setIfInBounds_toArray,List.set_cons_zero,List.set_cons_succ]
     refine qfu (by kernel_rfl) ?_ _
     (try go_wp2)
     (go_meet;refine ⟨wr.heap.size,?_,rfl,?_⟩;(· with_reducible rfl);exact hI ⟨Nat.le_refl _,qph HM6.out,lat14 HL6.out (by have:=HQ.out.ltg;omega) (by have:=HQ.out.lth;omega),qpg HB6.out (Nat.le_refl _)⟩)
   case rest =>
    obtain ⟨m,rfl,rfl,hcm⟩:=hcut
    obtain ⟨hm,hnew,hlatc,hbtc⟩:=hcm.out
    have hgG:=HQ.out.ltg
    have hhG:=HQ.out.lth
    have HXc:=hI (hbtc.heap HDX.out (by omega) (by omega))
    have HPRc:=hI (hbtc.heap HQ.out.pr (by omega) (by omega))
    have HLRc:=hI (hbtc.heap HQ.out.lr (by omega) (by omega))
    have HPc:=hI (hbtc.heap HDP.out (by omega) (by omega))
    have HRc:=hI (qkm HROW.out hbtc (by omega) (fun e=>by have:=(HROW.out.lt _ e).1;omega))
    have HBc:=hI (HQ.out.bt.trans hbtc)
    have HLc:=hI hlatc
    have HNc:=hI hnew
    have hmc:m < wc.heap.size:=qaa hnew
    have hcz:w.heap.size + 5≤wc.heap.size:=by have:=qaa HPc.out;omega
    have hxl:w.heap.size + 1 < wc.heap.size:=by omega
    clear hcm hlatc hbtc hnew HPL p0 p1 p2 p3 p4 p5 p6 p7 p8 p9 p10 p11 p12 p13 m0 m1 m2 m3 m4
    obtain ⟨p0,p1,p2,p3,p4,p5,p6,p7,p8,p9,p10,p11,p12,p13⟩:=qaf HXc.out
    obtain ⟨q0,q1,q2,q3,q4,q5,q6,q7,q8,q9,q10,q11,q12,q13⟩:=qal HXc.out
    obtain ⟨n0,n1,n2,n3,n4,n5,n6,n7,n8,n9,n10,n11,n12,n13⟩:=qaf HNc.out
    go_upto_region 12 with fail
    generalize hwd:(((((((((((((((wc.setCell ⟨w.heap.size + 1,0,none⟩ (.string na)).setCell ⟨w.heap.size + 1,1,none⟩ (.string nb)).setCell ⟨w.heap.size + 1,2,none⟩ (.string nc)).setCell ⟨w.heap.size + 1,3,none⟩ (.string ne)).setCell ⟨w.heap.size + 1,4,none⟩ (.bool nh)).setCell ⟨w.heap.size + 1,5,none⟩ (.bool nk)).setCell ⟨w.heap.size + 1,6,none⟩ (.int .i64 (nR:Int))).setCell ⟨w.heap.size + 1,7,none⟩ (.int .i64 (nO:Int))).setCell ⟨w.heap.size + 1,8,none⟩ (.int .i64 (nM:Int))).setCell ⟨w.heap.size + 1,9,none⟩ (.bool nD)).setCell ⟨w.heap.size + 1,10,none⟩ (.int .i64 (nf:Int))).setCell ⟨w.heap.size + 1,11,none⟩ (.int .i64 (np:Int))).setCell ⟨w.heap.size + 1,12,none⟩ (.int .i64 (nq:Int))).setCell ⟨w.heap.size + 1,13,none⟩ (.bool ns))).alloc (.cells #[.string oa0,.string ob0,.string oc0,.string oe0,.bool oh0,.bool ok0,.int .i64 (oR0:Int),.int .i64 (oO0:Int),.int .i64 (oM0:Int),.bool oD0,.int .i64 (of0:Int),.int .i64 (op0:Int),.int .i64 (oq0:Int),.bool false] 41)=wd
    have HBU:Hid (But (w.heap.size + 1) wc wd):=by rw [←hwd];exact (qjz (But.refl _ _)).alloc _
    have HXd:Hid (wd.heap[w.heap.size + 1]?=some (.cells #[.string na,.string nb,.string nc,.string ne,.bool nh,.bool nk,.int .i64 (nR:Int),.int .i64 (nO:Int),.int .i64 (nM:Int),.bool nD,.int .i64 (nf:Int),.int .i64 (np:Int),.int .i64 (nq:Int),.bool ns] 41 (0,0))):=by rw [←hwd];exact (Below.heap_alloc _ _ _ (qaa (qph HXc.out))).trans (qph HXc.out)
    have hsz14:(((((((((((((((wc.setCell ⟨w.heap.size + 1,0,none⟩ (.string na)).setCell ⟨w.heap.size + 1,1,none⟩ (.string nb)).setCell ⟨w.heap.size + 1,2,none⟩ (.string nc)).setCell ⟨w.heap.size + 1,3,none⟩ (.string ne)).setCell ⟨w.heap.size + 1,4,none⟩ (.bool nh)).setCell ⟨w.heap.size + 1,5,none⟩ (.bool nk)).setCell ⟨w.heap.size + 1,6,none⟩ (.int .i64 (nR:Int))).setCell ⟨w.heap.size + 1,7,none⟩ (.int .i64 (nO:Int))).setCell ⟨w.heap.size + 1,8,none⟩ (.int .i64 (nM:Int))).setCell ⟨w.heap.size + 1,9,none⟩ (.bool nD)).setCell ⟨w.heap.size + 1,10,none⟩ (.int .i64 (nf:Int))).setCell ⟨w.heap.size + 1,11,none⟩ (.int .i64 (np:Int))).setCell ⟨w.heap.size + 1,12,none⟩ (.int .i64 (nq:Int))).setCell ⟨w.heap.size + 1,13,none⟩ (.bool ns))).heap.size=wc.heap.size:=by simp
    have HWd:Hid (wd.heap[wc.heap.size]?=some (.cells #[.string oa0,.string ob0,.string oc0,.string oe0,.bool oh0,.bool ok0,.int .i64 (oR0:Int),.int .i64 (oO0:Int),.int .i64 (oM0:Int),.bool oD0,.int .i64 (of0:Int),.int .i64 (op0:Int),.int .i64 (oq0:Int),.bool false] 41 (0,0))):=by show _=_;rw [←hwd,←hsz14];exact qao _ _
    have DQ:Hid (DnQ w h g Y wd):=⟨by rw [HLY.out];exact HXd.out,HBU.out.heap HPRc.out (by omega),HBU.out.heap HLRc.out (by omega),HLc.out.but HBU.out (by omega) (by omega),HBc.out.but HBU.out (by omega),hhG,hgG⟩
    have HPd:=hI (HBU.out.heap HPc.out (by omega))
    have HRd:=hI (qcy HRc.out HBU.out (by omega) (fun e=>by have:=(HRc.out.lt _ e).1;omega))
    have hcA:∀ j,wd.cell? ⟨b2,j,none⟩=wr.cell? ⟨b2,j,none⟩:=fun j=>(DQ.out.bt.cellA (p:=⟨b2,j,none⟩) (by show b2 < _;omega) (by show b2≠g;omega) (by show b2≠h;omega)).trans (HQ.out.bt.cellA (p:=⟨b2,j,none⟩) (by show b2 < _;omega) (by show b2≠g;omega) (by show b2≠h;omega)).symm
    have d0:=(hcA _).trans f0
    have d1:=(hcA _).trans f1
    have d2:=(hcA _).trans f2
    have d3:=(hcA _).trans f3
    have hbd:b2 < wd.heap.size:=by have:=DQ.out.bt.size;omega
    have hdz:w.heap.size + 5≤wd.heap.size:=by have:=qaa HPd.out;omega
    obtain ⟨mw,hmw⟩:∃ n,n=wc.heap.size:=⟨_,rfl⟩
    rw [←hmw] at HWd ⊢
    clear hmw hwd hsz14 HBU HXc HPRc HLRc HPc HRc HBc HLc HNc hmc hcz hxl hm hcA HDX HCL p0 p1 p2 p3 p4 p5 p6 p7 p8 p9 p10 p11 p12 p13 q0 q1 q2 q3 q4 q5 q6 q7 q8 q9 q10 q11 q12 q13 n0 n1 n2 n3 n4 n5 n6 n7 n8 n9 n10 n11 n12 n13 f0 f1 f2 f3 f4 f5 f6 f7 f8 f9 f10 f11 f12
    obtain ⟨p0,p1,p2,p3,p4,p5,p6,p7,p8,p9,p10,p11,p12,p13⟩:=qaf HXd.out
    obtain ⟨n0,n1,n2,n3,n4,n5,n6,n7,n8,n9,n10,n11,n12,n13⟩:=qaf HWd.out
    obtain ⟨m0,m1,m2,m3,m4⟩:=qgd HPd.out
    obtain ⟨t0,t1,t2,t3,t4⟩:=qlh HPd.out
    have HSAME:Hid (PsR w ⟨st,evs,sf,tn,lo⟩ wd):=⟨A,c,HPd.out,HRd.out⟩
    rcases hk3 with rfl | rfl | rfl
    ·as_aux_lemma =>
      rw [if_pos rfl] at HDQ
      obtain ⟨bb,hbb⟩:∃ b,(decide ((oq0:Int) < (nq:Int)) || ns)=b:=⟨_,rfl⟩
      have HBB:=hI hbb
      go_upto_region 18 with fail
      go_cut [111] from 103 to 111 (fun v wx=>v=.bool bb∧wx=wd)
      case first =>
       by_cases hq:oq0 < nq
       ·have a1:decide ((oq0:Int) < (nq:Int))=true:=decide_eq_true (by omega)
        have a1':decide (oq0 < nq)=true:=decide_eq_true hq
        rw [a1] at hbb
        obtain rfl:bb=true:=by rw [←hbb];rfl
        go_wp2
        go_meet
        exact ⟨rfl,rfl⟩
       ·have a1:decide ((oq0:Int) < (nq:Int))=false:=decide_eq_false (by omega)
        have a1':decide (oq0 < nq)=false:=decide_eq_false hq
        rw [a1] at hbb
        obtain rfl:bb=ns:=by rw [←hbb];rfl
        clear hbb HBB
        cases bb
        all_goals go_wp2
        all_goals (go_meet;exact ⟨rfl,rfl⟩)
      case rest =>
       obtain ⟨rfl,hw2⟩:=hcut
       have hw3:=hw2.symm
       clear hw2 hbb
       subst hw3
       cases bb
       ·have HNE:Hid (¬ (oq0 < nq∨ns=true)):=fun hx=>by
         have:=HBB.out
         rw [Bool.or_eq_false_iff,decide_eq_false_iff_not] at this
         rcases hx with hx | hx
         ·exact this.1 (by omega)
         ·rw [this.2] at hx;cases hx
        clear HBB
        go_wp2
        go_roundw
        case rel =>
         refine ⟨k + 1,by go_num,by omega,hI ?_⟩
         rw [HST3.out,HDQ.out,if_neg HNE.out]
         exact ⟨DQ.out,HSAME.out⟩
        case measure=>simp [intOf];omega
       ·have HNE:Hid (oq0 < nq∨ns=true):=by
         have:=HBB.out
         rw [Bool.or_eq_true,decide_eq_true_eq] at this
         show _∨_
         rcases this with hx | hx
         ·exact Or.inl (by omega)
         ·exact Or.inr hx
        clear HBB
        obtain ⟨i0,hi0,hz0,hz1,hz2⟩:=info_parts qty
        have KS:Hid (∀ W,Below (w.heap.size + 5) wd W→W.cell? ⟨w.heap.size + 4,1,none⟩=some (.slice A (evA evs).size c)∧W.cell? ⟨b2,off + k * 13 + 1,none⟩=some (.int .i64 xe1)∧W.cell? ⟨b2,off + k * 13 + 2,none⟩=some (.string xe2)):=fun W hW=>⟨(hW.cell (p:=⟨w.heap.size + 4,1,none⟩) (by show w.heap.size + 4 < _;omega)).trans m1,(hW.cell (p:=⟨b2,off + k * 13 + 1,none⟩) (by show b2 < _;omega)).trans d1,(hW.cell (p:=⟨b2,off + k * 13 + 2,none⟩) (by show b2 < _;omega)).trans d2⟩
        have hev:(evA evs).size≤1000:=by rw [qau];have:=HIV.out.few;dsimp only at this;omega
        go_wp2_with fail
        refine qfv (S:=fun W=>W.cell? ⟨w.heap.size + 4,1,none⟩=some (.slice A (evA evs).size c)∧W.cell? ⟨b2,off + k * 13 + 1,none⟩=some (.int .i64 xe1)∧W.cell? ⟨b2,off + k * 13 + 2,none⟩=some (.string xe2)) (by kernel_rfl) ?_
        have hbd0:Below (w.heap.size + 5) wd wd.drew:=(Below.refl _ wd).drew
        refine qbg (some 112) (i:=0) (v:=?_) rfl rfl (by kernel_rfl) (by kernel_rfl) (by kernel_rfl) (by kernel_rfl) (fun _ _ _ h=>h) (Or.inl ⟨by rfl,?_⟩) (KS.out _ hbd0) ?_
        rotate_left
        ·(intro W hW;obtain ⟨c1,c2,c3⟩:=hW;go_simp;with_reducible rfl)
        simp only [Act.put,List.setIfInBounds_toArray,List.set_cons_zero,List.set_cons_succ]
        refine qbg (some 113) (i:=1) (v:=?_) rfl rfl (by kernel_rfl) (by kernel_rfl) (by kernel_rfl) (by kernel_rfl) (fun _ _ _ h=>h) (Or.inl ⟨by rfl,?_⟩) (KS.out _ hbd0) ?_
        rotate_left
        ·(intro W hW;obtain ⟨c1,c2,c3⟩:=hW;go_simp;with_reducible rfl)
        simp only [Act.put,List.setIfInBounds_toArray,List.set_cons_zero,List.set_cons_succ]
        refine qbg (some 114) (i:=2) (v:=?_) rfl rfl (by kernel_rfl) (by kernel_rfl) (by kernel_rfl) (by kernel_rfl) (fun _ _ _ h=>h) (Or.inl ⟨by rfl,?_⟩) (KS.out _ hbd0) ?_
        rotate_left
        ·(intro W hW;obtain ⟨c1,c2,c3⟩:=hW;go_simp;with_reducible rfl)
        simp only [Act.put,List.setIfInBounds_toArray,List.set_cons_zero,List.set_cons_succ]
        refine qbg (some 115) (i:=3) (v:=?_) rfl rfl (by kernel_rfl) (by kernel_rfl) (by kernel_rfl) (by kernel_rfl) (fun _ _ _ h=>h) (Or.inl ⟨by rfl,?_⟩) (KS.out _ hbd0) ?_
        rotate_left
        ·(intro W hW;obtain ⟨c1,c2,c3⟩:=hW;go_simp;with_reducible rfl)
        simp only [Act.put,List.setIfInBounds_toArray,List.set_cons_zero,List.set_cons_succ]
        refine qbg (some 116) (i:=4) (v:=?_) rfl rfl (by kernel_rfl) (by kernel_rfl) (by kernel_rfl) (by kernel_rfl) (fun _ _ _ h=>h) (Or.inl ⟨by rfl,?_⟩) (KS.out _ hbd0) ?_
        rotate_left
        ·(intro W hW;obtain ⟨c1,c2,c3⟩:=hW;go_simp;with_reducible rfl)
        simp only [Act.put,List.setIfInBounds_toArray,List.set_cons_zero,List.set_cons_succ]
        refine qbg (some 117) (i:=5) (v:=?_) rfl rfl (by kernel_rfl) (by kernel_rfl) (by kernel_rfl) (by kernel_rfl) (fun _ _ _ h=>h) (Or.inl ⟨by rfl,?_⟩) (KS.out _ hbd0) ?_
        rotate_left
        ·(intro W hW;obtain ⟨c1,c2,c3⟩:=hW;go_simp;with_reducible rfl)
        simp only [Act.put,List.setIfInBounds_toArray,List.set_cons_zero,List.set_cons_succ]
        refine qbg (some 118) (i:=6) (v:=?_) rfl rfl (by kernel_rfl) (by kernel_rfl) (by kernel_rfl) (by kernel_rfl) (fun _ _ _ h=>h) (Or.inl ⟨by rfl,?_⟩) (KS.out _ hbd0) ?_
        rotate_left
        ·(intro W hW;obtain ⟨c1,c2,c3⟩:=hW;go_simp;with_reducible rfl)
        simp only [Act.put,List.setIfInBounds_toArray,List.set_cons_zero,List.set_cons_succ]
        refine qbr (rs:=[7]) (by kernel_rfl) (by simp) (AllReadyT.cons rfl (fun K hK=>?_) AllReadyT.nil)
        go_simp
        have HBa:Hid (Below (w.heap.size + 5) wd (wd.drew.alloc (.cells #[.int .i64 xe1,.string xe2] 56))):=hbd0.alloc (by show w.heap.size + 5≤wd.heap.size;omega) _
        refine hK.out _ _ (KS.out _ HBa.out) (fun _=>?_)
        clear hK K
        refine qbr (rs:=[8]) (by kernel_rfl) (by simp) (AllReadyT.cons rfl (fun K hK=>?_) AllReadyT.nil)
        have hown2:(wd.drew.alloc (.cells #[.int .i64 xe1,.string xe2] 56)).ownsRow (w.heap.size + 5) 56 2 (.slice A (evA evs).size c) (evA evs).size (flatK qbm 2 (evA evs)).toList:=(qiu HRd.out).alloc _
        refine qol (by rfl) _ _ _ (by rfl) (w.heap.size + 5) 56 i0 (.agg #[.int .i64 0,.string ⟨#[]⟩]) 2 24 Tryz.underlying37 hi0 hz0 hz1 hz2 rfl (by decide) _ (evA evs).size (flatK qbm 2 (evA evs)).toList (by rfl) hown2 ⟨wd.heap.size,0,none⟩ 1 1 [.int .i64 xe1,.string xe2] (by rfl) (by rfl) (lits_D (qao wd.drew _)) (by simp [Value.oneCell']) (by unfold maxLen;omega) (by omega) (by show w.heap.size + 5≤_;simp;omega) ?_
        intro v' w7 hown7 hb7
        obtain ⟨g7,cap7,rfl⟩:=ownsRow_succ hown7
        have HB7:=hI (HBa.out.trans hb7)
        have HR7:=hI hown7
        refine hK.out _ _ (KS.out _ HB7.out) (fun _=>?_)
        clear hK K hown7 hown2 hb7
        refine qbg (some 121) (i:=9) (v:=?_) rfl rfl (by kernel_rfl) (by kernel_rfl) (by kernel_rfl) (by kernel_rfl) (fun _ _ _ h=>h) (Or.inl ⟨by rfl,?_⟩) (KS.out _ HB7.out) ?_
        rotate_left
        ·(intro W hW;obtain ⟨c1,c2,c3⟩:=hW;go_simp;with_reducible rfl)
        simp only [Act.put,List.setIfInBounds_toArray]
        have HP7:=hI ((HB7.out.block _ (by omega)).trans HPd.out)
        have j1:=Lib.frozen_of_heap HP7.out 1
        obtain ⟨s0,s1,s2,s3,s4⟩:=qgd HP7.out
        refine qbr (rs:=[10]) (by kernel_rfl) (by simp) (AllReadyT.last rfl (by kernel_rfl) (fun K hK=>?_))
        go_simp
        refine hK.out _ _ ?_
        clear hK K
        refine qfu (by kernel_rfl) ?_ _
        go_wp2
        go_roundw
        case rel =>
         refine ⟨k + 1,by go_num,by omega,hI ?_⟩
         rw [HST3.out,HDQ.out,if_pos HNE.out]
         refine ⟨(DQ.out.belB HB7.out).but ((But.refl _ _).set _ _),some ⟨g7,0,none⟩,cap7,?_,?_⟩
         ·rw [qae HP7.out 1 _,qks,Array.size_push]
          simp only [List.setIfInBounds_toArray,List.set_cons_succ,List.set_cons_zero]
         ·rw [qks,Array.size_push,qfr (enc:=qbm) (k:=2) (fun _=>rfl)]
          exact qcy HR7.out ((But.refl (w.heap.size + 4) w7).set _ _) (by omega) (fun e=>by have:=(HR7.out.lt _ e).1;omega)
        case measure=>simp [intOf];omega
    ·as_aux_lemma =>
      rw [if_neg (by decide),if_pos rfl] at HDQ
      cases ns
      rotate_left
      ·go_wp2
       go_roundw
       case rel =>
        refine ⟨k + 1,by go_num,by omega,hI ?_⟩
        rw [HST3.out,HDQ.out,if_pos rfl]
        exact ⟨DQ.out,HSAME.out⟩
       case measure=>simp [intOf];omega
      ·go_wp2
       go_roundw
       case rel =>
        refine ⟨k + 1,by go_num,by omega,hI ?_⟩
        rw [HST3.out,HDQ.out,if_neg (by decide)]
        refine ⟨DQ.out.but ((But.refl _ _).set _ _),A,c,?_,qcy HRd.out ((But.refl (w.heap.size + 4) wd).set _ _) (by omega) (fun e=>by have:=(HRd.out.lt _ e).1;omega)⟩
        rw [qae HPd.out 2 _]
        simp only [List.setIfInBounds_toArray,List.set_cons_succ,List.set_cons_zero,qau]
       case measure=>simp [intOf];omega
    ·as_aux_lemma =>
      rw [if_neg (by decide),if_neg (by decide)] at HDQ
      by_cases hp:op0 < np
      ·have a1:decide ((op0:Int) < (np:Int))=true:=decide_eq_true (by omega)
       have a1':decide (op0 < np)=true:=decide_eq_true hp
       have HP:=hI hp
       clear hp
       go_wp2
       go_roundw
       case rel =>
        refine ⟨k + 1,by go_num,by omega,hI ?_⟩
        rw [HST3.out,HDQ.out,if_pos HP.out]
        exact ⟨DQ.out.but (but5 (But.refl _ _)),none,0,set5 HPd.out,qcn _ _⟩
       case measure=>simp [intOf];omega
      ·have a1:decide ((op0:Int) < (np:Int))=false:=decide_eq_false (by omega)
       have a1':decide (op0 < np)=false:=decide_eq_false hp
       have HP:=hI hp
       clear hp
       cases ns
       ·go_wp2
        go_roundw
        case rel =>
         refine ⟨k + 1,by go_num,by omega,hI ?_⟩
         rw [HST3.out,HDQ.out,if_neg HP.out,if_neg (by decide)]
         exact ⟨DQ.out,HSAME.out⟩
        case measure=>simp [intOf];omega
       ·go_wp2
        go_roundw
        case rel =>
         refine ⟨k + 1,by go_num,by omega,hI ?_⟩
         rw [HST3.out,HDQ.out,if_neg HP.out,if_pos rfl]
         refine ⟨DQ.out.but (((But.refl _ _).set _ _).set _ _),A,c,?_,qcy HRd.out (((But.refl (w.heap.size + 4) wd).set _ _).set _ _) (by omega) (fun e=>by have:=(HRd.out.lt _ e).1;omega)⟩
         rw [qae (qae HPd.out 3 _) 4 _]
         simp only [List.setIfInBounds_toArray,List.set_cons_succ,List.set_cons_zero]
        case measure=>simp [intOf];omega
def pastV (p:PP) (A:Option Addr) (c:Nat):Value:=.agg #[.string p.st,.slice A (evA p.evs).size c,.int .i64 (p.safe:Int),.string p.torn,.bool p.lost]
theorem evA_at (z:List EV) (i:Nat):(evA z)[i]! = z[i]!:=by
 unfold evA
 simp
theorem rdK_take {W:World} {B:Nat} {A:Option Addr} {z:List EV} (h:RdK qbm 2 B W A (evA z)) (k:Nat):RdK qbm 2 B W A (evA (z.take k)):=fun h0=>by
 have hk:(evA (z.take k)).size≤(evA z).size:=by rw [qau,qau,List.length_take];omega
 obtain ⟨b,off,e,hb,hc⟩:=h (by omega)
 refine ⟨b,off,e,hb,fun t ht=>?_⟩
 have hlt:t < (evA z).size * 2:=by omega
 rw [hc t hlt,Go.Sort.get_flatK _ _ _ _ hlt,Go.Sort.get_flatK _ _ _ _ ht]
 have hq:t / 2 < (evA (z.take k)).size:=by omega
 have hq2:t / 2 < (evA z).size:=by omega
 have e1:(evA z)[t / 2]! = (evA (z.take k))[t / 2]!:=by
  have hk2:t / 2 < k:=by
   rw [qau,List.length_take] at hq
   omega
  rw [evA_at,evA_at,List.getElem!_eq_getElem?_getD,List.getElem!_eq_getElem?_getD,List.getElem?_take_of_lt hk2]
 rw [e1]
set_option maxHeartbeats 4000000 in
theorem kept_any (p:PP) (st:ByteArray) (evs:List EV) (A1 A2:Option Addr) (c1 c2:Nat) (w:World) (h1:RdK qbm 2 w.heap.size w A1 (evA p.evs)) (h2:RdK qbm 2 w.heap.size w A2 (evA evs)) (hc:(evA p.evs).size≤c1) (hn:A1=none→c1=0) (hA0:A1=none∨∃ b off,A1=some ⟨b,off,none⟩) (hm:evs.length≤1000) (hs:p.safe≤1000) (hk:KeptP p st evs) :
 Calls Tryz.prog 24 #[pastV p A1 c1,.string st,.slice A2 (evA evs).size c2] w fun e w'=>e=.returned (.bool true)∧Below w.heap.size w w':=by
 have HR1:=hI h1
 have HR2:=hI h2
 have HB:=hI (bel1 w (.cells #[.string p.st,.slice A1 (evA p.evs).size c1,.int .i64 (p.safe:Int),.string p.torn,.bool p.lost] 45))
 obtain ⟨pst,pevs,psf,ptn,plo⟩:=p
 unfold pastV
 dsimp only at HR1 HB hc hs ⊢
 clear h1 h2
 by_cases hl:plo=true∧st=ptn∧evs=[]
 ·obtain ⟨rfl,rfl,rfl⟩:=hl
  have e0:(evA []).size=0:=rfl
  rw [e0]
  clear hk e0
  go_enter Tryz.func24,Tryz.ntmps24
  go_wp2
  go_ret
  exact ⟨rfl,HB.out⟩
 ·obtain ⟨rfl,k1,k2,k3⟩:st=pst∧psf≤evs.length∧evs.length≤pevs.length∧evs=pevs.take evs.length:=by
   rcases hk with ⟨a,b,c⟩ | h
   ·exact absurd ⟨a,b,c⟩ hl
   ·exact h
  have HK3:=hI k3
  have q1:decide (((evA evs).size:Int) < (psf:Int))=false:=decide_eq_false (by rw [qau];omega)
  have q1':decide ((evA evs).size < psf)=false:=decide_eq_false (by rw [qau];omega)
  have q2:decide (((evA pevs).size:Int) < ((evA evs).size:Int))=false:=decide_eq_false (by rw [qau,qau];omega)
  have q2':decide ((evA pevs).size < (evA evs).size)=false:=decide_eq_false (by rw [qau,qau];omega)
  have q3:(evA evs).size≤c1:=by rw [qau] at hc ⊢;omega
  have HSE:Hid (∀ W,Below w.heap.size w W→∀ c,Calls Tryz.prog 13 #[.slice A2 (evA evs).size c2,.slice A1 (evA evs).size c] W fun e w'=>e=.returned (.bool true)∧∃ n,w'=W.drewN n):=fun W hb c=>by
   have hx:RdK qbm 2 w.heap.size W A1 (evA evs):=by
    rw [HK3.out]
    exact rdK_take (HR1.out.below hb) _
   have h:=qpe A2 A1 c2 c (evA evs) (evA evs) _ _ W (HR2.out.below hb) hx (by rw [qau];omega)
   rw [decide_eq_true rfl] at h
   exact h
  have HL:=hI hl
  have hn0:(evA evs).size=evs.length:=qau evs
  have hpn:evs.length≠0→evs≠[]:=fun h e=>by rw [e] at h;exact h rfl
  generalize (evA pevs).size=pn at q2 q2' hc HB ⊢
  generalize (evA evs).size=n at q1 q1' q2 q2' q3 HSE hn0 ⊢
  have hfin:∀ ww n9,ww=(w.alloc (.cells #[.string st,.slice A1 pn c1,.int .i64 (psf:Int),.string ptn,.bool plo] 45)).drewN n9→Below w.heap.size w ww:=fun ww n9 h=>by rw [h];exact qan HB.out n9
  have HFI:=hI hfin
  have hstn:plo=false∨(plo=true∧(st.toList == ptn.toList)=false)∨(plo=true∧st=ptn∧((n:Int) == 0)=false∧(n == 0)=false):=by
   cases plo
   ·exact Or.inl rfl
   by_cases hst:st=ptn
   ·have hne:n≠0:=fun h0=>HL.out ⟨rfl,hst,List.eq_nil_of_length_eq_zero (by omega)⟩
    exact Or.inr (Or.inr ⟨rfl,hst,by simp;omega,by simp;omega⟩)
   ·exact Or.inr (Or.inl ⟨rfl,by rw [str_eq_D];simp [hst]⟩)
  clear hl hfin hk k1 k2 k3 hn0 hpn hm HL HK3
  have hA:(A1=none∧c1=0∧n=0)∨∃ b off,A1=some ⟨b,off,none⟩:=by
   rcases hA0 with h | h
   ·exact Or.inl ⟨h,hn h,by have:=hn h;omega⟩
   ·exact Or.inr h
  clear hA0 hn
  rcases hstn with rfl | ⟨rfl,hse⟩ | ⟨rfl,rfl,hz1,hz2⟩
  all_goals
   rcases hA with ⟨rfl,rfl,rfl⟩ | ⟨b,off,rfl⟩
   all_goals first
    | (exfalso;revert hz1;simp;done)
    | skip
   all_goals
    go_enter Tryz.func24,Tryz.ntmps24
    go_wp2_with (go_at_call 13;refine (HSE.out _ HB.out _).mono ?_;rintro e w9 ⟨rfl,n9,rfl⟩)
    go_ret
    exact ⟨rfl,qan HB.out _⟩
end Go.Proofs.YtjkecckndfcbjaaGreatDoor
