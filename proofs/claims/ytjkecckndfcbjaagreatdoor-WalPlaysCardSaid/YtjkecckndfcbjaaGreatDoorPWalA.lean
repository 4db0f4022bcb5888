/- Texts that the law leans on. -/
import Derived.Test.YtjkecckndfcbjaaGreatDoorPMsgF
import Derived.Test.YtjkecckndfcbjaaGreatDoorPDskB
import Derived.Test.YtjkecckndfcbjaaGreatDoorPFrmC
import Derived.Test.YtjkecckndfcbjaaGreatDoorPRecA
import Derived.StillTailTactics
import Derived.Test.YtjkecckndfcbjaaGreatDoorPLftA
namespace Go.Proofs.YtjkecckndfcbjaaGreatDoor
open Go.RowKit Crc Nb
set_option maxRecDepth 100000
def cellsL (g:Nat) (l:LG):List Value:=[.pointer (some ⟨g,0,none⟩),.int .i64 (l.file:Int),.int .i64 (l.ep:Int),.int .i64 (l.sq:Int),.bool l.shut]
structure LAt (w:World) (h g:Nat) (l:LG):Prop where
 box:w.heap[h]?=some (.cells (cellsL g l).toArray 96 (0,0))
 dsk:DAt w g l.d
 ne:h≠g
structure But2 (g h:Nat) (w w':World):Prop where
 os:w'.os=w.os
 tape:w'.tape=w.tape
 output:w'.output=w.output
 size:w.heap.size≤w'.heap.size
 block:∀ k,k < w.heap.size→k≠g→k≠h→w'.heap[k]?=w.heap[k]?
theorem But2.refl (g h:Nat) (w:World):But2 g h w w:=⟨rfl,rfl,rfl,Nat.le_refl _,fun _ _ _ _=>rfl⟩
theorem But2.trans {g h:Nat} {a b c:World} (x:But2 g h a b) (y:But2 g h b c):But2 g h a c :=
 ⟨y.os.trans x.os,y.tape.trans x.tape,y.output.trans x.output,Nat.le_trans x.size y.size,fun i hi hg hh=>(y.block i (Nat.lt_of_lt_of_le hi x.size) hg hh).trans (x.block i hi hg hh)⟩
theorem But.left {g:Nat} {w w':World} (x:But g w w') (h:Nat):But2 g h w w':=⟨x.os,x.tape,x.output,x.size,fun k hk hg _=>x.block k hk hg⟩
theorem But.right {h:Nat} {w w':World} (x:But h w w') (g:Nat):But2 g h w w':=⟨x.os,x.tape,x.output,x.size,fun k hk _ hh=>x.block k hk hh⟩
theorem But2.of {g h:Nat} {w w':World} (x:Below w.heap.size w w'):But2 g h w w':=(But.of x).left h
theorem But2.below {g h B:Nat} {w0 w w':World} (x:But2 g h w w') (hb:Below B w0 w) (hg:B≤g) (hh:B≤h) (hB:B≤w.heap.size):Below B w0 w' :=
 hb.trans ⟨x.os,x.tape,x.output,x.size,fun k hk=>x.block k (Nat.lt_of_lt_of_le hk hB) (by omega) (by omega)⟩
theorem But2.heap {g h:Nat} {w w':World} (x:But2 g h w w') {k:Nat} {o:Obj} (hk:w.heap[k]?=some o) (hg:k≠g) (hh:k≠h):w'.heap[k]?=some o:=(x.block k (qaa hk) hg hh).trans hk
section
variable {w w':World} {h g:Nat} {l:LG}
theorem LAt.lth (x:LAt w h g l):h < w.heap.size:=qaa x.box
theorem LAt.ltg (x:LAt w h g l):g < w.heap.size:=x.dsk.lt
theorem LAt.below (x:LAt w h g l) (hb:Below w.heap.size w w'):LAt w' h g l:=⟨(hb.block h x.lth).trans x.box,x.dsk.below hb,x.ne⟩
theorem LAt.but {k:Nat} (x:LAt w h g l) (hb:But k w w') (hg:g≠k) (hh:h≠k):LAt w' h g l:=⟨hb.heap x.box hh,x.dsk.but hb hg,x.ne⟩
theorem LAt.disk {d:DK} (x:LAt w h g l) (hb:But g w w') (hd:DAt w' g d):LAt w' h g { l with d:=d }:=⟨hb.heap x.box x.ne,hd,x.ne⟩
theorem LAt.cells (x:LAt w h g l):w.cell? ⟨h,0,none⟩=some (.pointer (some ⟨g,0,none⟩))∧w.cell? ⟨h,1,none⟩=some (.int .i64 (l.file:Int))∧w.cell? ⟨h,2,none⟩=some (.int .i64 (l.ep:Int))∧w.cell? ⟨h,3,none⟩=some (.int .i64 (l.sq:Int))∧w.cell? ⟨h,4,none⟩=some (.bool l.shut):=by
 refine ⟨?_,?_,?_,?_,?_⟩ <;> (rw [qac x.box];rfl)
theorem LAt.frozen (x:LAt w h g l) (j:Nat):w.frozen? ⟨h,j,none⟩=false:=Lib.frozen_of_heap x.box j
theorem LAt.noFlt (x:LAt w h g l):¬ Flt w h:=fun ⟨cs,f,h1⟩=>by
 rw [x.box] at h1
 injection h1 with h1
 injection h1 with _ h2
 exact absurd h2 (by decide)
theorem qoq (x:LAt w h g l) (j:Nat) (u:Value):DAt (w.setCell ⟨h,j,none⟩ u) g l.d:=(Below.heap_setCell w ⟨h,j,none⟩ u g (fun e=>x.ne e.symm)).trans x.dsk
theorem LAt.setShut (x:LAt w h g l) (b:Bool):LAt (w.setCell ⟨h,4,none⟩ (.bool b)) h g { l with shut:=b }:=⟨qae x.box _ _,qoq x _ _,x.ne⟩
theorem LAt.setFile (x:LAt w h g l) (n:Nat):LAt (w.setCell ⟨h,1,none⟩ (.int .i64 (n:Int))) h g { l with file:=n }:=⟨qae x.box _ _,qoq x _ _,x.ne⟩
theorem LAt.setEp (x:LAt w h g l) (n:Nat):LAt (w.setCell ⟨h,2,none⟩ (.int .i64 (n:Int))) h g { l with ep:=n }:=⟨qae x.box _ _,qoq x _ _,x.ne⟩
theorem LAt.setSq (x:LAt w h g l) (n:Nat):LAt (w.setCell ⟨h,3,none⟩ (.int .i64 (n:Int))) h g { l with sq:=n }:=⟨qae x.box _ _,qoq x _ _,x.ne⟩
end
def ErL (c:Nat) (e:Ending) (w':World):Prop:=∃ v ops,e=.returned v∧ErrV w' ops (c:Int) v
theorem erL_ok (w':World):ErL 0 (.returned .nilIface) w':=⟨_,[],rfl,Or.inl ⟨rfl,rfl,rfl⟩⟩
theorem qlj {c:Nat} {v:Value} {ops:List ByteArray} {w':World} (hc:c≠0) (h:Chain w' ops (c:Int) v):ErL c (.returned v) w':=⟨v,ops,rfl,Or.inr ⟨by omega,h⟩⟩
theorem qfm (c:Int) (w:World) (h:1≤c∧c≤100) :
 Calls Tryz.prog 38 #[.int .i64 c] w fun e w'=>∃ v,e=.returned v∧Chain w' [logW] c v∧Below w.heap.size w w':=by
 have HN:Hid (∀ W:World,Calls Tryz.prog 64 #[.string ⟨#[108,111,103]⟩,.int .i64 c] W fun e w'=>∃ v,e=.returned v∧Chain w' [logW] c v∧Below W.heap.size W w'):=fun W=>qee logW c W (by omega)
 clear h
 go_enter Tryz.func38,Tryz.ntmps38
 go_wp2_with fail
 refine (HN.out _).mono ?_
 rintro e w1 ⟨v,rfl,hch,hb⟩
 have HC:=hI hch
 have HB:=hI hb
 clear hch hb
 go_wp2
 go_ret
 exact ⟨_,rfl,HC.out,HB.out⟩
section
variable (l:LG) (h g:Nat) (w:World)
theorem qif (x:LAt w h g l) :
 Calls Tryz.prog 42 #[.pointer (some ⟨h,0,none⟩)] w fun e w'=>e=.returned (.bool true)∧w=w':=by
 obtain ⟨c0,-,-,-,-⟩:=x.cells
 clear x
 go_enter Tryz.func42,Tryz.ntmps42
 go_wp2
 go_ret
 exact ⟨rfl,rfl⟩
theorem qjh :
 Calls Tryz.prog 42 #[.pointer none] w fun e w'=>e=.returned (.bool false)∧w=w':=by
 go_enter Tryz.func42,Tryz.ntmps42
 go_wp2
 go_ret
 exact ⟨rfl,rfl⟩
theorem qxm (x:LAt w h g l) :
 Calls Tryz.prog 31 #[.pointer (some ⟨h,0,none⟩)] w fun e w'=>e=.returned (.bool l.shut)∧w=w':=by
 have HM:=hI (qif l h g w x)
 obtain ⟨-,-,-,-,c4⟩:=x.cells
 clear x
 generalize l.shut=b at c4 ⊢
 cases b
 all_goals
  go_enter Tryz.func31,Tryz.ntmps31
  go_wp2_with (go_at_call 42;refine HM.out.mono ?_;rintro _ _ ⟨rfl,rfl⟩)
  go_ret
  exact ⟨rfl,rfl⟩
theorem qor :
 Calls Tryz.prog 31 #[.pointer none] w fun e w'=>e=.returned (.bool true)∧w=w':=by
 have HM:=hI (qjh w)
 go_enter Tryz.func31,Tryz.ntmps31
 go_wp2_with (go_at_call 42;refine HM.out.mono ?_;rintro _ _ ⟨rfl,rfl⟩)
 go_ret
 exact ⟨rfl,rfl⟩
theorem qrk (x:LAt w h g l) :
 Calls Tryz.prog 30 #[.pointer (some ⟨h,0,none⟩)] w fun e w'=>e=.returned (.int .i64 (l.ep:Int))∧w=w':=by
 have HM:=hI (qif l h g w x)
 obtain ⟨-,-,c2,-,-⟩:=x.cells
 clear x
 go_enter Tryz.func30,Tryz.ntmps30
 go_wp2_with (go_at_call 42;refine HM.out.mono ?_;rintro _ _ ⟨rfl,rfl⟩)
 go_ret
 exact ⟨rfl,rfl⟩
theorem qsz (x:LAt w h g l) :
 Calls Tryz.prog 14 #[.pointer (some ⟨h,0,none⟩)] w fun e w'=>e=.returned (.int .i64 (l.sq:Int))∧w=w':=by
 have HM:=hI (qif l h g w x)
 obtain ⟨-,-,-,c3,-⟩:=x.cells
 clear x
 go_enter Tryz.func14,Tryz.ntmps14
 go_wp2_with (go_at_call 42;refine HM.out.mono ?_;rintro _ _ ⟨rfl,rfl⟩)
 go_ret
 exact ⟨rfl,rfl⟩
theorem qta (x:LAt w h g l) :
 Calls Tryz.prog 59 #[.pointer (some ⟨h,0,none⟩)] w fun e w'=>∃ v,e=.returned v∧ErrV w' (if l.shut then [logW] else []) (if l.shut then 20 else 0) v∧Below w.heap.size w w':=by
 have HM:=hI (qif l h g w x)
 have HW:=hI (fun (W:World)=>qfm 20 W (by omega))
 obtain ⟨-,-,-,-,c4⟩:=x.cells
 clear x
 generalize l.shut=b at c4 ⊢
 cases b
 ·simp only [Bool.false_eq_true,if_false]
  go_enter Tryz.func59,Tryz.ntmps59
  go_wp2_with (go_at_call 42;refine HM.out.mono ?_;rintro _ _ ⟨rfl,rfl⟩)
  go_ret
  exact ⟨_,rfl,Or.inl ⟨rfl,rfl,rfl⟩,Below.refl _ _⟩
 ·simp only [if_true]
  go_enter Tryz.func59,Tryz.ntmps59
  go_wp2_with (first | (go_at_call 42;refine HM.out.mono ?_;rintro _ _ ⟨rfl,rfl⟩) | (go_at_call 38;refine (HW.out _).mono ?_;rintro e w3 ⟨v,rfl,hch,hb3⟩;have HCH:=hI hch;have HB3:=hI hb3;clear hch hb3))
  go_ret
  exact ⟨_,rfl,Or.inr ⟨by decide,HCH.out⟩,HB3.out⟩
theorem qxn :
 Calls Tryz.prog 59 #[.pointer none] w fun e w'=>∃ v,e=.returned v∧Chain w' [logW] 1 v∧Below w.heap.size w w':=by
 have HM:=hI (qjh w)
 have HW:=hI (fun (W:World)=>qfm 1 W (by omega))
 go_enter Tryz.func59,Tryz.ntmps59
 go_wp2_with (first | (go_at_call 42;refine HM.out.mono ?_;rintro _ _ ⟨rfl,rfl⟩) | (go_at_call 38;refine (HW.out _).mono ?_;rintro e w3 ⟨v,rfl,hch,hb3⟩;have HCH:=hI hch;have HB3:=hI hb3;clear hch hb3))
 go_ret
 exact ⟨_,rfl,HCH.out,HB3.out⟩
end
theorem qlk (l:LG) (h g c:Nat) (ops:List ByteArray) (v:Value) (w:World) (x:LAt w h g l) (hv:ErrV w ops (c:Int) v) :
 Calls Tryz.prog 62 #[.pointer (some ⟨h,0,none⟩),v] w fun e w'=>ErL c e w'∧LAt w' h g (shutG l l.d c).1∧But h w w':=by
 have HI:=hI (qug ops c 20 v w hv (by decide))
 have H:=hI x
 have HV:=hI hv
 obtain ⟨-,-,-,-,c4⟩:=x.cells
 have z4:=x.frozen 4
 by_cases hc:c=20
 ·have HS:Hid ((shutG l l.d c).1={ l with shut:=true }):=by show _=_;unfold shutG;rw [hc];simp
  rw [HS.out]
  subst hc
  have hch:Chain w ops 20 v:=by
   rcases hv with ⟨hv,-⟩ | ⟨-,hv⟩
   ·omega
   ·exact hv
  obtain ⟨t1,u1,rfl⟩:∃ t u,v=.iface t u:=qar hch
  have HW:=hI (qdo logW ops 20 (.iface t1 u1) (w.setCell ⟨h,4,none⟩ (.bool true)) (hch.but ((But.refl h w).set 4 _) x.noFlt))
  clear x hv hch
  go_enter Tryz.func62,Tryz.ntmps62
  go_wp2_with (first | (go_at_call 92;refine HI.out.mono ?_;rintro _ _ ⟨rfl,rfl⟩) | (go_at_call 34;refine HW.out.mono ?_;rintro e w3 ⟨u,rfl,hch,hb3⟩;have HCH:=hI hch;have HB3:=hI hb3;clear hch hb3))
  go_ret
  exact ⟨qlj (c:=20) (by decide) HCH.out,(H.out.setShut true).below HB3.out,((But.refl h w).set 4 _).trans (But.of HB3.out)⟩
 ·have HS:Hid ((shutG l l.d c).1=l):=by
   show _=_
   unfold shutG
   have:(c == 20)=false:=by simpa using hc
   rw [this,Bool.or_false]
  rw [HS.out]
  have hcz:((c:Int) == 20)=false:=by simp;omega
  rw [hcz] at HI
  rcases hv with ⟨hc0,rfl,rfl⟩ | ⟨hc0,hch⟩
  ·obtain rfl:c=0:=by omega
   have HW:=hI (qsf logW w)
   clear x
   go_enter Tryz.func62,Tryz.ntmps62
   go_wp2_with (first | (go_at_call 92;refine HI.out.mono ?_;rintro _ _ ⟨rfl,rfl⟩) | (go_at_call 34;refine HW.out.mono ?_;rintro _ _ ⟨rfl,rfl⟩))
   go_ret
   exact ⟨erL_ok _,H.out,But.refl _ _⟩
  ·obtain ⟨t1,u1,rfl⟩:∃ t u,v=.iface t u:=qar hch
   have HW:=hI (qdo logW ops c (.iface t1 u1) w hch)
   have HC0:Hid (c≠0):=by show _≠_;omega
   clear x hch hc0
   go_enter Tryz.func62,Tryz.ntmps62
   go_wp2_with (first | (go_at_call 92;refine HI.out.mono ?_;rintro _ _ ⟨rfl,rfl⟩) | (go_at_call 34;refine HW.out.mono ?_;rintro e w3 ⟨u,rfl,hch,hb3⟩;have HCH:=hI hch;have HB3:=hI hb3;clear hch hb3))
   go_ret
   exact ⟨qlj HC0.out HCH.out,H.out.below HB3.out,But.of HB3.out⟩
theorem qmq (w:World) :
 Calls Tryz.prog 60 #[] w fun e w'=>e=.returned (.tuple #[.func (.func 86) #[] #[.pointer (some ⟨w.heap.size,0,none⟩)],.func (.func 89) #[] #[.pointer (some ⟨w.heap.size,0,none⟩)]])∧w'=w.alloc (.cells #[.string ⟨#[]⟩] 9):=by
 have hmf:∀ (fn:Fn) (first cap:Array Value) (w:World),(Instr.makeFunc fn first cap).run Tryz.prog w=.ok (.func fn first cap) w:=fun _ _ _ _=>rfl
 go_enter Tryz.func60,Tryz.ntmps60
 go_wp2
 refine bodyPost_ret (v:=.tuple #[.func (.func 86) #[] #[.pointer (some ⟨w.heap.size,0,none⟩)],.func (.func 89) #[] #[.pointer (some ⟨w.heap.size,0,none⟩)]]) (by simp [results,Tryz.results60,go_sem]) rfl ⟨rfl,rfl⟩
theorem qll (a:Nat) (x:ByteArray) (w:World) (h:w.cell? ⟨a,0,none⟩=some (.string x)) :
 Calls Tryz.prog 89 #[.pointer (some ⟨a,0,none⟩)] w fun e w'=>e=.returned (.string x)∧w=w':=by
 go_enter Tryz.func89,Tryz.ntmps89
 go_wp2
 go_ret
 exact ⟨rfl,rfl⟩
def GAt (w:World) (a:Nat) (x:ByteArray):Prop:=w.heap[a]?=some (.cells #[.string x] 9 (0,0))
theorem GAt.cell {w:World} {a:Nat} {x:ByteArray} (h:GAt w a x):w.cell? ⟨a,0,none⟩=some (.string x):=by rw [qac h];rfl
theorem GAt.below {w w':World} {a:Nat} {x:ByteArray} (h:GAt w a x) (hb:Below w.heap.size w w'):GAt w' a x:=(hb.block a (qaa h)).trans h
theorem qfd (r:PR) (a:Nat) (w:World) (hg:Glob w) (hd:r.dt.size≤1000000) (h0:recC r≠0) :
 Calls Tryz.prog 86 #[recV r,.pointer (some ⟨a,0,none⟩)] w fun e w'=>ErL 2 e w'∧Below w.heap.size w w':=by
 have HP:=hI (fun (W:World) (hb:Below w.heap.size w W)=>qrb r W (hg.below hb) hd h0)
 have HWR:=hI (fun (W:World) (v:Value) (hv:Chain W [qfa] 2 v)=>qdo logW [qfa] 2 v W hv)
 clear hg hd h0
 unfold recV at *
 go_enter Tryz.func86,Tryz.ntmps86
 go_wp2_with fail
 refine (HP.out _ (bel1 w _)).mono ?_
 rintro e w1 ⟨⟨v,rfl,hv⟩,hb1⟩
 have hch:=qdq hv (by decide)
 obtain ⟨t1,u1,rfl⟩:∃ t u,v=.iface t u:=qar hch
 have HV:=hI (HWR.out w1 _ hch)
 have HB1:=hI (qad (bel1 w _) hb1)
 clear hv hch hb1 HP HWR
 go_wp2_with (go_at_call 34;refine HV.out.mono ?_;rintro e w3 ⟨u,rfl,hch,hb3⟩;have HCH:=hI hch;have HB3:=hI hb3;clear hch hb3)
 go_ret
 exact ⟨qlj (c:=2) (by decide) HCH.out,qad HB1.out HB3.out⟩
theorem qfz (r:PR) (a:Nat) (x:ByteArray) (w:World) (hg:Glob w) (h:GAt w a x) (hx:x.size≤4000000000) (hd:r.dt.size≤1000000) (h0:recC r=0) :
 Calls Tryz.prog 86 #[recV r,.pointer (some ⟨a,0,none⟩)] w fun e w'=>e=.returned .nilIface∧GAt w' a (x ++ ⟨(qak (recB r)).toArray⟩)∧But a w w':=by
 have HP:=hI (fun (W:World) (hb:Below w.heap.size w W)=>qsu r W (hg.below hb) hd h0)
 have hfew:=qgn h0
 have HF:=hI (fun (W:World)=>fPut_any ⟨(recB r).toArray⟩ W (by rw [qaz];omega))
 have HE:Hid (frW ⟨(recB r).toArray⟩=⟨(qak (recB r)).toArray⟩):=by show _=_;unfold frW;simp
 rw [HE.out] at HF
 obtain ⟨f,hf⟩:∃ f:ByteArray,(⟨(qak (recB r)).toArray⟩:ByteArray)=f:=⟨_,rfl⟩
 have hfs:f.size≤20000:=by
  rw [←hf,qaz,qdv]
  have:=qax (recB r).length (by omega)
  omega
 rw [hf] at HF ⊢
 have H:=hI h
 have hlt:=qaa h
 clear hg hd h0 h hfew HE hf
 unfold recV at *
 go_enter Tryz.func86,Tryz.ntmps86
 go_wp2_with fail
 refine (HP.out _ (bel1 w _)).mono ?_
 rintro _ w1 ⟨rfl,hb1⟩
 have HB1:=hI (qad (bel1 w _) hb1)
 clear hb1 HP
 go_wp2_with fail
 refine (HF.out _).mono ?_
 rintro _ w2 ⟨rfl,hb2⟩
 have HB2:=hI (qad HB1.out hb2)
 have H2:=hI (H.out.below HB2.out)
 have c0:=H2.out.cell
 have z0:w2.frozen? ⟨a,0,none⟩=false:=Lib.frozen_of_heap H2.out 0
 clear hb2 HF
 go_wp2
 go_ret
 exact ⟨rfl,qae H2.out _ _,(But.of HB2.out).set 0 _⟩
end Go.Proofs.YtjkecckndfcbjaaGreatDoor
namespace Go.Proofs.YtjkecckndfcbjaaGreatDoor
open Go.RowKit Go.Sort Crc Nb
set_option maxRecDepth 100000
def qbx (e:EV):List Value:=[.int .i64 e.1,.string e.2]
theorem encE2_len (e:EV):(qbx e).length=2:=rfl
theorem ev_info:(Tryz.prog.info? 56).map (fun i=>(i.zero,i.size,i.bytes))=some (some (.agg #[.int .i64 0,.string ⟨#[]⟩]),2,24):=by kernel_rfl
def evA (l:List EV):Array EV:=l.toArray
theorem qbu (l:List EV):(evA l).size=l.length:=by simp [evA]
theorem qvz (l:List EV) (e:EV):evA (l ++ [e])=(evA l).push e:=by simp [evA]
def qau (t:TL) (v:Value) (b:Bool):Array Value:=#[.int .i64 (t.ep:Int),.string t.st,v,.bool b]
def TellP (s:ByteArray) (w:World) (e:Ending) (w':World):Prop:=∃ v,e=.returned (.agg (qau (qdh s.data.toList) v (decide ((qdh s.data.toList).n=s.size))))∧w'.ownsRow w.heap.size 56 2 v (evA (qdh s.data.toList).evs).size (flatK qbx 2 (evA (qdh s.data.toList).evs)).toList∧Below w.heap.size w w'
theorem qel {t:TL} {i:Nat} {b:List UInt8} {l:List (List UInt8)} (h:qgs t i b=true):qeb t i (b :: l)=qeb (qiv t i b) (i + 1) l:=by rw [qeb,if_pos h]
theorem qbs {t:TL} {i:Nat} {b:List UInt8} {l:List (List UInt8)} (h:qgs t i b=false):qeb t i (b :: l)=t:=by rw [qeb,if_neg (by rw [h];simp)]
theorem qrl {t:TL} {i:Nat} {b:List UInt8} (h:rtC b≠0):qgs t i b=false:=by unfold qgs;simp [h]
theorem nextB_0 {t:TL} {b:List UInt8} (h:rtC b=0):qgs t 0 b=(recO b).sn:=by unfold qgs;simp [h]
theorem nextB_s {t:TL} {i:Nat} {b:List UInt8} (h:rtC b=0) (hi:i≠0):qgs t i b=(!(recO b).sn && (decide ((recO b).ep=(t.ep:Int)) && decide ((recO b).sq=(i:Int)))):=by unfold qgs;simp [h,hi]
theorem recO_ep {b:List UInt8} (h:rtC b=0):0≤(recO b).ep:=by
 obtain ⟨-,h2,-⟩:=rtC_ok h
 have:=(qfv h2).1
 omega
theorem qrm {l:Array (List UInt8)} {i:Nat} (h:i < l.size):l.toList.drop i=l[i]! :: l.toList.drop (i + 1):=by
 rw [List.drop_eq_getElem_cons (by simpa using h),getElem!_pos l i h]
 rfl
theorem qig:∀ (l:List (List UInt8)) (t:TL) (i:Nat),(qeb t i l).evs.length≤t.evs.length + l.length
 | [],t,i=>by simp [qeb]
 | b :: l,t,i=>by
   by_cases h:qgs t i b=true
   ·rw [qel h]
    have:=qig l (qiv t i b) (i + 1)
    have e:(qiv t i b).evs.length≤t.evs.length + 1:=by unfold qiv;split <;> simp
    simp only [List.length_cons]
    omega
   ·rw [qbs (by simpa using h)]
    omega
theorem qeq {W:World} {B g n:Nat} {v:Value} {e:TypeId} {k:Nat} {xs:List Value} (h:W.ownsRow B e k v n xs) (hg:g < B) (j:Nat) (x:Value):(W.setCell ⟨g,j,none⟩ x).ownsRow B e k v n xs:=by
 refine h.kept (row:=some g) ⟨rfl,rfl,rfl,by simp [World.setCell],fun i _ hi=>Below.heap_setCell _ _ _ _ (fun e=>hi (by simp [e]))⟩ (Or.inr (fun e=>?_))
 have:=(h.lt g e).1
 omega
theorem qhg {W w4:World} {B g n:Nat} {v:Value} {e:TypeId} {k:Nat} {xs:List Value} {o t:Obj} (h:W.heap[g]?=some o) (hr:W.ownsRow B e k v n xs) (hg:g < B) (hgrow:(W.alloc t).grownBy w4 v.ownBlock):w4.heap[g]?=some o:=by
 have hl:=qaa h
 rw [hgrow.block g (by simp;omega) (fun e=>by have:=(hr.lt g e.symm).1;omega),Below.heap_alloc W t g hl]
 exact h
theorem qlm {W w':World} (h:W=w'):Below W.heap.size W w':=h ▸ Below.refl _ _
theorem newF2 (W:World) (n:Nat) (l:List Value) (t:TypeId) (hn:W.heap.size=n):∀ j u,l[j]?=some u→(W.alloc (.cells l.toArray t)).cell? ((⟨n,0,none⟩:Addr).add j)=some u:=by
 subst hn
 exact newF W l t
theorem TellP.alloc {s:ByteArray} {w W:World} {e:Ending} (h:TellP s w e W) (o:Obj):TellP s w e (W.alloc o):=by
 obtain ⟨v,h1,h2,h3⟩:=h
 exact ⟨v,h1,qat h2 (bel1 W o),qab h3 o⟩
theorem qbc {T:TypeId} {wz:World} {g m:Nat} {a b c d u:Value} {t:TL} {v:Value} {q:Bool} (h:wz.heap[g]?=some (.cells #[a,b,c,d] T (0,0))) (hm:g≠m) :
 (((((wz.setCell ⟨m,3,none⟩ u).setCell ⟨g,0,none⟩ (.int .i64 (t.ep:Int))).setCell ⟨g,1,none⟩ (.string t.st)).setCell ⟨g,2,none⟩ v).setCell ⟨g,3,none⟩ (.bool q)).heap[g]?=some (.cells (qau t v q) T (0,0)) :=
 qae (qae (qae (qae ((Below.heap_setCell wz ⟨m,3,none⟩ u g hm).trans h) 0 _) 1 _) 2 _) 3 _
theorem qbe {fn:Func} {t:Tmp} (hf:fn.results=#[.cell t 87]) {tm:Array Value} {W:World} {g:Nat} {x:TL} {v:Value} {q:Bool} {T:TypeId} (hg:tm.getD t undef=.pointer (some ⟨g,0,none⟩)) (h:W.heap[g]?=some (.cells (qau x v q) T (0,0))):(results fn tm).run Tryz.prog W=.ok (.agg (qau x v q)) W:=by
 have hg2:tm[t]?.getD undef=.pointer (some ⟨g,0,none⟩):=by rw [←Array.getD_eq_getD_getElem?];exact hg
 have hl:(loadVar 87 ⟨g,0,none⟩).run Tryz.prog W=.ok (.agg (qau x v q)) W:=run_loadVar_row W g T 87 (qau x v q) (0,0) _ h Tryz.underlying87 rfl (by show _=some 4;kernel_rfl)
 simp [results,hf,hg2,asAddr,hl]
theorem qba {fn:Func} {t:Tmp} (hf:fn.results=#[.cell t 101]) {tm:Array Value} {W:World} {g:Nat} {x:TL} {v:Value} {q:Bool} {T:TypeId} (hg:tm.getD t undef=.pointer (some ⟨g,0,none⟩)) (h:W.heap[g]?=some (.cells (qau x v q) T (0,0))):(results fn tm).run Tryz.prog W=.ok (.agg (qau x v q)) W:=by
 have hg2:tm[t]?.getD undef=.pointer (some ⟨g,0,none⟩):=by rw [←Array.getD_eq_getD_getElem?];exact hg
 have hl:(loadVar 101 ⟨g,0,none⟩).run Tryz.prog W=.ok (.agg (qau x v q)) W:=run_loadVar_row W g T 101 (qau x v q) (0,0) _ h Tryz.underlying101 rfl (by show _=some 4;kernel_rfl)
 simp [results,hf,hg2,asAddr,hl]
structure RoundT (T:TypeId) (m:Nat) (t:TL) (Am:Option Addr) (cm:Nat) (w1 W:World):Prop where
 box:W.heap[m]?=some (.cells (qau t (.slice Am (evA t.evs).size cm) false) T (0,0))
 row:W.ownsRow (m + 1) 56 2 (.slice Am (evA t.evs).size cm) (evA t.evs).size (flatK qbx 2 (evA t.evs)).toList
 bel:Below m w1 W
 size:m + 1≤W.heap.size
theorem RoundT.first {T:TypeId} {t:TL} {Am:Option Addr} {cm n:Nat} {st:ByteArray} {w1 W:World} {m k:Nat} (h:RoundT T m t Am cm w1 W):RoundT T m ⟨n,st,t.evs,k⟩ Am cm w1 ((W.setCell ⟨m,0,none⟩ (.int .i64 (n:Int))).setCell ⟨m,1,none⟩ (.string st)) :=
 ⟨qae (qae h.box 0 _) 1 _,qeq (qeq h.row (Nat.lt_succ_self _) _ _) (Nat.lt_succ_self _) _ _,(h.bel.setCell (p:=⟨m,0,none⟩) (Nat.le_refl _) _).setCell (p:=⟨m,1,none⟩) (Nat.le_refl _) _,by simpa [World.setCell] using h.size⟩
theorem RoundT.below {T:TypeId} {t:TL} {Am:Option Addr} {cm m:Nat} {w1 W W':World} (h:RoundT T m t Am cm w1 W) (hb:Below W.heap.size W W'):RoundT T m t Am cm w1 W' :=
 ⟨(hb.block _ (qaa h.box)).trans h.box,qat h.row hb,h.bel.trans (hb.mono (by have:=h.size;omega)),Nat.le_trans h.size hb.size⟩
theorem RoundT.drew {T:TypeId} {t:TL} {Am:Option Addr} {cm m:Nat} {w1 W:World} (h:RoundT T m t Am cm w1 W):RoundT T m t Am cm w1 W.drew:=⟨h.box,h.row,h.bel.drew,h.size⟩
theorem RoundT.alloc {T:TypeId} {t:TL} {Am:Option Addr} {cm m:Nat} {w1 W:World} (h:RoundT T m t Am cm w1 W) (o:Obj):RoundT T m t Am cm w1 (W.alloc o):=h.below (bel1 W o)
theorem RoundT.next {T:TypeId} {t:TL} {Am:Option Addr} {cm m k:Nat} {w1 W w4:World} {e:EV} {g' cap':Nat} {o:Obj} (h:RoundT T m t Am cm w1 W)
 (hr:w4.ownsRow (m + 1) 56 2 (.slice (some ⟨g',0,none⟩) ((evA t.evs).size + 1) cap') ((evA t.evs).size + 1) ((flatK qbx 2 (evA t.evs)).toList ++ qbx e)) (hgrow:(W.alloc o).grownBy w4 (Value.slice Am (evA t.evs).size cm).ownBlock) :
 RoundT T m ⟨t.ep,t.st,t.evs ++ [e],k⟩ (some ⟨g',0,none⟩) cap' w1 (w4.setCell ⟨m,2,none⟩ (.slice (some ⟨g',0,none⟩) ((evA t.evs).size + 1) cap')):=by
 have hb4:Below m w1 w4:=qqd h.bel (by have:=h.size;omega) (qay h.row (Nat.le_succ m)) hgrow
 have hbx:=qhg h.box h.row (Nat.lt_succ_self _) hgrow
 refine ⟨?_,?_,hb4.setCell (p:=⟨m,2,none⟩) (Nat.le_refl _) _,?_⟩
 ·rw [show evA (t.evs ++ [e])=(evA t.evs).push e from qvz _ _,Array.size_push]
  exact qae hbx 2 _
 ·rw [show evA (t.evs ++ [e])=(evA t.evs).push e from qvz _ _,Array.size_push,qgp encE2_len]
  exact qeq hr (Nat.lt_succ_self _) _ _
 ·have:=hgrow.size
  have:=h.size
  simp [World.setCell] at *
  omega
theorem qrn {W w4:World} {p:Addr} {x:Value} {B n:Nat} {v:Value} {e:TypeId} {k:Nat} {xs:List Value} {o t:Obj} (h:W.cell? p=some x) (hr:W.ownsRow B e k v n xs) (hg:p.block < B) (hgrow:((W.alloc o).alloc t).grownBy w4 v.ownBlock):w4.cell? p=some x:=by
 have hl:=qan h
 have h1:w4.heap[p.block]?=W.heap[p.block]?:=by
  rw [hgrow.block p.block (by simp;omega) (fun e=>by have:=(hr.lt p.block e.symm).1;omega),Below.heap_alloc _ t _ (by simp;omega),Below.heap_alloc _ o _ hl]
 exact (World.cell?_of_block (w:=W) h1).trans h
theorem qiz (s:List UInt8):5 * (allL s).1.length≤s.length:=by
 obtain ⟨-,h2,-,h4⟩:=qfp s
 have:∀ l:List (List UInt8),5 * l.length≤(l.flatMap qak).length:=fun l=>by
  induction l with
  | nil=>simp
  | cons b l ih =>
    have:=qff b
    rw [List.flatMap_cons,List.length_append,List.length_cons]
    omega
 have:=this (allL s).1
 omega
theorem qbm {w w1 wz:World} {s:ByteArray} {v:Value} {q:Bool} {t:TL} (h1:Below w.heap.size w w1) (hz:Below w1.heap.size w1 wz) (hr:wz.ownsRow (w1.heap.size + 1) 56 2 v (evA t.evs).size (flatK qbx 2 (evA t.evs)).toList) (hq:q=decide (t.n=s.size)) (ht:qdh s.data.toList=t) (hlt:w.heap.size < w1.heap.size) (u a b c d:Value) :
 TellP s w (.returned (.agg (qau t v q))) (((((wz.setCell ⟨w1.heap.size,3,none⟩ u).setCell ⟨w.heap.size,0,none⟩ a).setCell ⟨w.heap.size,1,none⟩ b).setCell ⟨w.heap.size,2,none⟩ c).setCell ⟨w.heap.size,3,none⟩ d):=by
 have hb:=h1.trans (hz.mono (Nat.le_of_lt hlt))
 have k5:∀ (W:World) (j:Nat) (x:Value) (g:Nat),W.ownsRow (w1.heap.size + 1) 56 2 v (evA t.evs).size (flatK qbx 2 (evA t.evs)).toList→g≤w1.heap.size→(W.setCell ⟨g,j,none⟩ x).ownsRow (w1.heap.size + 1) 56 2 v (evA t.evs).size (flatK qbx 2 (evA t.evs)).toList:=fun W j x g h hg=>by
  refine h.kept (row:=some g) ⟨rfl,rfl,rfl,by simp [World.setCell],fun k _ hk=>Below.heap_setCell _ _ _ _ (fun e=>hk (by simp [e]))⟩ (Or.inr (fun e=>?_))
  have:=(h.lt g e).1
  omega
 refine ⟨v,by rw [ht,hq],?_,?_⟩
 ·rw [ht]
  exact qay (k5 _ _ _ _ (k5 _ _ _ _ (k5 _ _ _ _ (k5 _ _ _ _ (k5 _ _ _ _ hr (Nat.le_refl _)) (Nat.le_of_lt hlt)) (Nat.le_of_lt hlt)) (Nat.le_of_lt hlt)) (Nat.le_of_lt hlt)) (by omega)
 ·exact ((((hb.setCell (p:=⟨w1.heap.size,3,none⟩) (Nat.le_of_lt hlt) u).setCell (p:=⟨w.heap.size,0,none⟩) (Nat.le_refl _) a).setCell (p:=⟨w.heap.size,1,none⟩) (Nat.le_refl _) b).setCell (p:=⟨w.heap.size,2,none⟩) (Nat.le_refl _) c).setCell (p:=⟨w.heap.size,3,none⟩) (Nat.le_refl _) d
end Go.Proofs.YtjkecckndfcbjaaGreatDoor
namespace Go.Proofs.YtjkecckndfcbjaaGreatDoor
open Go.RowKit Go.Sort Crc Nb
set_option maxRecDepth 100000
def LogP (h g:Nat) (x:LG×Nat) (w:World) (e:Ending) (w':World):Prop:=ErL x.2 e w'∧LAt w' h g x.1∧But2 g h w w'
theorem LAt.drew {w:World} {h g:Nat} {l:LG} (x:LAt w h g l):LAt w.drew h g l:=⟨x.box,x.dsk,x.ne⟩
theorem GAt.drew {w:World} {a:Nat} {x:ByteArray} (h:GAt w a x):GAt w.drew a x:=h
theorem GAt.but {w w':World} {a g:Nat} {x:ByteArray} (h:GAt w a x) (hb:But g w w') (hg:a≠g):GAt w' a x:=hb.heap h hg
theorem But2.drew2 {g h:Nat} {w w':World} (x:But2 g h w w'):But2 g h w w'.drew:=⟨x.os,x.tape,x.output,x.size,x.block⟩
theorem erD_v {c:Nat} {e:Ending} {w:World} (h:ErD c e w):∃ v,e=.returned v∧((c=0∧v=.nilIface)∨(c≠0∧(∃ t u,v=.iface t u)∧ErrV w [qhv] (c:Int) v)):=by
 obtain ⟨v,rfl,hv⟩:=h
 refine ⟨v,rfl,?_⟩
 rcases hv with ⟨h0,-,rfl⟩ | ⟨h0,hc⟩
 ·exact Or.inl ⟨by omega,rfl⟩
 ·have h1:c≠0:=by omega
  rw [if_neg h1] at hc
  exact Or.inr ⟨h1,qar hc,Or.inr ⟨h0,hc⟩⟩
theorem qwa (a b:List UInt8):(⟨a.toArray⟩:ByteArray) ++ ⟨b.toArray⟩=⟨(a ++ b).toArray⟩:=qik a b
theorem qwb (ep:Nat) (st:ByteArray):ptF ep st []=qak (recB (snR ep st)):=by unfold ptF ptB evsB;simp
theorem qji (l:LG) (t ep k:Nat) (bs:ByteArray) (ht:(1 - (l.file:Int))=(t:Int)) (d1 d2 d3:DK) (c1 c2 c3:Nat) (h1:qbf l.d (t:Int)=(d1,c1)) (h2:appQ d1 (t:Int) bs=(d2,c2)) (h3:qca d2 (t:Int)=(d3,c3)) :
 layM l ep bs k=if c1≠0 then shutG l d1 c1 else if c2≠0 then shutG l d2 c2 else if c3≠0 then shutG l d3 c3 else (⟨d3,t,ep,k,l.shut⟩,0):=by
 have h4:1 - l.file=t:=by omega
 unfold layM
 rw [ht,h1,h4]
 simp only
 rw [h2]
 simp only
 rw [h3]
set_option maxHeartbeats 8000000 in
theorem qos (l:LG) (h g ep:Nat) (st:ByteArray) (A:Option Addr) (c:Nat) (d:Array EV) (w:World) (hg:Glob w) (x:LAt w h g l) (hok:l.d.ok) (ho:l.d.ops≤999999990) (hf:l.file=0∨l.file=1)
 (hr:RdK qbx 2 w.heap.size w A d) (hd:d.size≤200000) (hev:∀ i,i < d.size→d[i]!.2.size≤1000000) :
 Calls Tryz.prog 37 #[.pointer (some ⟨h,0,none⟩),.int .i64 (ep:Int),.string st,.slice A d.size c] w (LogP h g (layP l ep st d.toList) w):=by
 have HGA:=hI (qmq w)
 have HBO:=hI (fun (W:World) (hb:Below w.heap.size w W) (h0:recC (snR ep st)≠0)=>qfd (snR ep st) w.heap.size W (hg.below hb) (show (⟨#[]⟩:ByteArray).size≤1000000 by decide) h0)
 have HOO:=hI (fun (W:World) (hb:Below w.heap.size w W) (hG:GAt W w.heap.size ⟨#[]⟩) (h0:recC (snR ep st)=0)=>qfz (snR ep st) w.heap.size ⟨#[]⟩ W (hg.below hb) hG (by decide) (show (⟨#[]⟩:ByteArray).size≤1000000 by decide) h0)
 have HBE:=hI (fun (W:World) (hb:Below w.heap.size w W) (n:Nat) (e:EV) (hz:e.2.size≤1000000) (h0:recC (evR ep n e)≠0)=>qfd (evR ep n e) w.heap.size W (hg.below hb) hz h0)
 have HOE:=hI (fun (W:World) (hb:Below w.heap.size w W) (n:Nat) (e:EV) (y:ByteArray) (hG:GAt W w.heap.size y) (hy:y.size≤4000000000) (hz:e.2.size≤1000000) (h0:recC (evR ep n e)=0)=>qfz (evR ep n e) w.heap.size y W (hg.below hb) hG hy hz h0)
 have HR:=hI hr
 have HEV:=hI hev
 have HX:=hI x
 have HOK:=hI hok
 have HF:=hI hf
 have hHA:h < w.heap.size:=x.lth
 have hGA:g < w.heap.size:=x.ltg
 have hne:=x.ne
 obtain ⟨t,ht⟩:∃ t:Nat,(1 - (l.file:Int))=(t:Int):=⟨1 - l.file,by rcases hf with e | e <;> rw [e] <;> rfl⟩
 have ht2:t=0∨t=1:=by omega
 have hfl:l.file≤1:=by omega
 have HT:=hI ht
 clear hr hev x hok hf hg ht
 have HB1:Hid (Below w.heap.size w (w.alloc (.cells #[.string ⟨#[]⟩] 9))):=bel1 w _
 have HG1:Hid (GAt (w.alloc (.cells #[.string ⟨#[]⟩] 9)) w.heap.size ⟨#[]⟩):=qas w _
 obtain ⟨w1,hw1⟩:∃ W,w.alloc (.cells #[.string ⟨#[]⟩] 9)=W:=⟨_,rfl⟩
 have HGA1:Hid (Calls Tryz.prog 60 #[] w fun e w'=>e=.returned (.tuple #[.func (.func 86) #[] #[.pointer (some ⟨w.heap.size,0,none⟩)],.func (.func 89) #[] #[.pointer (some ⟨w.heap.size,0,none⟩)]])∧w'=w1):=by rw [←hw1];exact HGA.out
 rw [hw1] at HB1 HG1
 clear hw1 HGA
 by_cases h0:recC (snR ep st)=0
 rotate_left
 ·have HQ:Hid (layP l ep st d.toList=(l,2)):=qjq (qmk h0)
  rw [HQ.out]
  have HC:=hI (HBO.out w1 HB1.out h0)
  unfold recV snR at HC
  dsimp only at HC
  clear HBO HOO HBE HOE HQ h0 HG1
  go_enter Tryz.func37,Tryz.ntmps37
  go_wp2_with (first | (go_at_call 60;refine HGA1.out.mono ?_;rintro _ _ ⟨rfl,rfl⟩) | (go_at_call 86;refine HC.out.mono ?_;rintro e w3 ⟨⟨v,ops,rfl,hv⟩,hb3⟩;(have hch:=qdq hv (by decide));obtain ⟨t1,u1,rfl⟩:∃ t u,v=.iface t u:=qar hch;have HV:=hI hv;have HB3:=hI (qad HB1.out hb3);clear hv hch hb3))
  go_ret
  exact ⟨⟨_,_,rfl,HV.out⟩,HX.out.below HB3.out,But2.of HB3.out⟩
 have HP0:=hI (quk ep st h0)
 have HC:=hI (HOO.out w1 HB1.out HG1.out h0)
 unfold recV snR at HC
 dsimp only at HC
 clear HBO HOO h0
 go_enter Tryz.func37,Tryz.ntmps37
 go_wp2_with (first | (go_at_call 60;refine HGA1.out.mono ?_;rintro _ _ ⟨rfl,rfl⟩) | (go_at_call 86;refine HC.out.mono ?_;rintro _ w2 ⟨rfl,hG2,hb2⟩;have HB2:=hI (hb2.below HB1.out (Nat.le_refl _) HB1.out.size);have HG2:=hI hG2;clear hG2 hb2))
 have HG0:Hid (GAt w2 w.heap.size ⟨(ptF ep st (d.toList.take 0)).toArray⟩):=by
  have e0:(⟨#[]⟩:ByteArray) ++ ⟨(qak (recB (snR ep st))).toArray⟩=⟨(ptF ep st (d.toList.take 0)).toArray⟩:=by rw [List.take_zero,qwb];exact qik [] _
  show GAt _ _ _
  rw [←e0]
  exact HG2.out
 clear HG2 HC
 go_loopw [33] (fun iv wr=>∃ k:Nat,iv=.int .i64 (k:Int)∧k≤d.size∧Hid (ptC ep st (d.toList.take k)=0)∧Hid (GAt wr w.heap.size ⟨(ptF ep st (d.toList.take k)).toArray⟩)∧Hid (Below w.heap.size w wr)) (fun i _=>d.size - (intOf i).toNat)
 case atStart=>exact ⟨0,rfl,Nat.zero_le _,HP0,HG0,HB2⟩
 case round =>
  obtain ⟨k,rfl,hk,HPK,HGK,HBK⟩:=hrel
  by_cases hlt:k < d.size
  ·have kz:(k:Int) < (d.size:Int):=by omega
   obtain ⟨blk,off,rfl,hblk,f⟩:=(HR.out.below HBK.out).at_ (i:=k) hlt
   have f0:=f 0 (by omega)
   have f1:=f 1 (by omega)
   clear f
   have hez:=HEV.out k hlt
   generalize hxe:d[k]! = x at f0 f1 hez
   obtain ⟨kd,dt⟩:=x
   simp only [Nat.add_zero,qbx,List.getElem!_cons_zero,List.getElem!_cons_succ] at f0 f1
   have hkl:k < d.toList.length:=by simpa using hlt
   have HD:Hid (d.toList[k]=(kd,dt)):=by show _=_;rw [←hxe,getElem!_pos d k hlt];rfl
   have HZK:=hI (qju HPK.out)
   clear hxe
   by_cases hrc:recC (evR ep (k + 1) (kd,dt))=0
   ·have HPN:Hid (ptC ep st (d.toList.take (k + 1))=0):=qkv hkl HPK.out (by rw [HD.out];exact hrc)
    have HFN:Hid (ptF ep st (d.toList.take (k + 1))=ptF ep st (d.toList.take k) ++ qak (recB (evR ep (k + 1) (kd,dt)))):=by show _=_;rw [quj hkl,HD.out]
    have HC2:=hI (HOE.out (wr.alloc (.cells #[.int .i64 kd,.string dt] 56)) (qab HBK.out _) (k + 1) (kd,dt) _ (HGK.out.below (bel1 wr _)) (by
     rw [qaz]
     have h1:=HZK.out
     have h2:(d.toList.take k).length≤200000:=by rw [List.length_take];omega
     omega) hez hrc)
    rw [qwa,←HFN.out] at HC2
    unfold recV evR at HC2
    dsimp only at HC2
    clear hrc HPK HD HFN HZK hkl
    go_wp2_with (go_at_call 86;refine HC2.out.mono ?_;rintro _ w3 ⟨rfl,hG3,hb3⟩;have HB3:=hI (hb3.below (qab HBK.out _) (Nat.le_refl _) (qab HBK.out _).size);have HG3:=hI hG3;clear hG3 hb3)
    go_roundw
    case rel=>exact ⟨k + 1,by go_num,by omega,HPN,HG3,HB3⟩
    case measure=>simp [intOf];omega
   ·have HQ:Hid (layP l ep st d.toList=(l,2)):=qjq (qmj hkl (by rw [HD.out];exact hrc))
    have HC2:=hI (HBE.out (wr.alloc (.cells #[.int .i64 kd,.string dt] 56)) (qab HBK.out _) (k + 1) (kd,dt) hez hrc)
    unfold recV evR at HC2
    dsimp only at HC2
    clear hrc HPK HD HZK hkl
    go_wp2_with (go_at_call 86;refine HC2.out.mono ?_;rintro e w3 ⟨⟨v,ops,rfl,hv⟩,hb3⟩;(have hch:=qdq hv (by decide));obtain ⟨t1,u1,rfl⟩:∃ t u,v=.iface t u:=qar hch;have HV:=hI hv;have HB3:=hI (qad (qab HBK.out _) hb3);clear hv hch hb3)
    go_ret
    rw [HQ.out]
    exact ⟨⟨_,_,rfl,HV.out⟩,HX.out.below HB3.out,But2.of HB3.out⟩
  ·have kz:decide ((k:Int) < (d.size:Int))=false:=by simp;omega
   have hkd:k=d.size:=by omega
   have htk:d.toList.take k=d.toList:=List.take_of_length_le (by simp;omega)
   rw [htk] at HPK HGK
   have HQ:Hid (layP l ep st d.toList=layM l ep (ptA ep st d.toList) d.size):=by show _=_;rw [qsl HF.out HPK.out];simp
   have hbz:(ptA ep st d.toList).size≤2000000000:=by
    have:=qju HPK.out
    rw [qut]
    simp at this
    omega
   have HGB:Hid (GAt wr w.heap.size (ptA ep st d.toList)):=HGK.out
   generalize ptA ep st d.toList=bs at HGB hbz HQ
   obtain ⟨q1,hq1⟩:∃ q,qbf l.d (t:Int)=q:=⟨_,rfl⟩
   obtain ⟨d1,c1⟩:=q1
   obtain ⟨q2,hq2⟩:∃ q,appQ d1 (t:Int) bs=q:=⟨_,rfl⟩
   obtain ⟨d2,c2⟩:=q2
   obtain ⟨q3,hq3⟩:∃ q,qca d2 (t:Int)=q:=⟨_,rfl⟩
   obtain ⟨d3,c3⟩:=q3
   have HM:=hI (qji l t ep d.size bs HT.out d1 d2 d3 c1 c2 c3 hq1 hq2 hq3)
   obtain ⟨k1,o1,-⟩:=qhq HOK.out (t:Int)
   rw [hq1] at k1 o1
   obtain ⟨k2,o2,-⟩:=qku k1 (t:Int) bs
   rw [hq2] at k2 o2
   dsimp only at k1 o1 k2 o2
   have HX2:=hI (HX.out.below HBK.out)
   have HR1:=hI (qpw l.d g (t:Int) wr HX2.out.dsk HOK.out (by omega))
   have HR2:=hI (fun (W:World) (hD:DAt W g d1)=>qip d1 g (t:Int) bs W hD k1 (by omega) hbz)
   have HR3:=hI (fun (W:World) (hD:DAt W g d2)=>qno d2 g (t:Int) W hD k2 (by omega))
   rw [hq1] at HR1
   rw [hq2] at HR2
   rw [hq3] at HR3
   have HSH:Hid (∀ (dk:DK) (ck:Nat),(shutG { l with d:=dk } dk ck).1=(shutG l dk ck).1):=fun _ _=>rfl
   have HSE:Hid (∀ (dk:DK) (ck:Nat),(shutG l dk ck).2=ck):=fun _ _=>rfl
   obtain ⟨y0,y1,-,-,-⟩:=HX2.out.cells
   have hza:w.heap.size≠g:=Nat.ne_of_gt hGA
   have hzh:w.heap.size≠h:=Nat.ne_of_gt hHA
   have ht:=HT.out
   obtain ⟨R,hR⟩:∃ R,layM l ep bs d.size=R:=⟨_,rfl⟩
   rw [hR] at HM HQ
   clear hR hq1 hq2 hq3 HPK HGK HOE HBE HR HEV k1 k2 o1 o2 hkd htk hbz HT
   go_wp2_with (go_at_call 68;refine HR1.out.mono ?_;rintro e w3 ⟨he,hd3,hb3⟩;obtain ⟨v1,rfl,hv1⟩:=erD_v he;have HX3:=hI (HX2.out.disk hb3 hd3);have HG3:=hI (HGB.out.but hb3 hza);have HB3:=hI ((But2.of HBK.out).trans (hb3.left h));clear he hd3 hb3)
   rcases hv1 with ⟨rfl,rfl⟩ | ⟨hc1,⟨t1,u1,rfl⟩,hv1⟩
   rotate_left
   ·have HDI:=hI (qlk { l with d:=d1 } h g c1 [qhv] (.iface t1 u1) w3 HX3.out hv1)
    have HRE:Hid (R=shutG l d1 c1):=by show _=_;rw [HM.out,if_pos hc1]
    clear hv1 HM hc1
    go_wp2_with (go_at_call 62;refine HDI.out.mono ?_;rintro e w4 ⟨⟨v,ops,rfl,hv⟩,hl4,hb4⟩;have HV:=hI hv;have HL4:=hI hl4;have HB4:=hI (HB3.out.trans (hb4.right g));clear hv hl4 hb4)
    go_ret
    rw [HQ.out,HRE.out]
    exact ⟨⟨_,_,rfl,HV.out⟩,HL4.out,HB4.out⟩
   rw [if_neg (by decide)] at HM
   obtain ⟨y0,y1,-,-,-⟩:=HX3.out.cells
   have g0:w3.cell? ⟨w.heap.size,0,none⟩=some (.string bs):=HG3.out.cell
   have HX4:=hI HX3.out.drew
   have HB4:=hI (HB3.out.drew2)
   have HGC:=hI (qll w.heap.size bs w3.drew HG3.out.cell)
   have HR2':=hI (HR2.out w3.drew HX4.out.dsk)
   go_wp2_with fail
   refine wp_region_still_tail 7 (by kernel_rfl) (by kernel_rfl) ?_
   simp only [List.take_succ_cons,List.take_zero,List.drop_succ_cons,List.drop_zero]
   repeat still_step
   still_call ((HGC.out).mono (fun _ _ h=>⟨h.1,h.2.symm⟩))
   refine wpStill_nil ?_
   clear HR2 HX3 HB3 HG3 g0 y0 y1
   go_wp2_with (first | (go_at_call 89;refine HGC.out.mono ?_;rintro _ _ ⟨rfl,rfl⟩) | (go_at_call 61;refine HR2'.out.mono ?_;rintro e w5 ⟨he,hd5,hb5⟩;obtain ⟨v2,rfl,hv2⟩:=erD_v he;have HX5:=hI (HX4.out.disk hb5 hd5);have HB5:=hI (HB4.out.trans (hb5.left h));clear he hd5 hb5))
   rcases hv2 with ⟨rfl,rfl⟩ | ⟨hc2,⟨t2,u2,rfl⟩,hv2⟩
   rotate_left
   ·have HDI:=hI (qlk { l with d:=d2 } h g c2 [qhv] (.iface t2 u2) w5 HX5.out hv2)
    have HRE:Hid (R=shutG l d2 c2):=by show _=_;rw [HM.out,if_pos hc2]
    clear hv2 HM hc2
    go_wp2_with (go_at_call 62;refine HDI.out.mono ?_;rintro e w6 ⟨⟨v,ops,rfl,hv⟩,hl6,hb6⟩;have HV:=hI hv;have HL6:=hI hl6;have HB6:=hI (HB5.out.trans (hb6.right g));clear hv hl6 hb6)
    go_ret
    rw [HQ.out,HRE.out]
    exact ⟨⟨_,_,rfl,HV.out⟩,HL6.out,HB6.out⟩
   rw [if_neg (by decide)] at HM
   obtain ⟨y0,y1,-,-,-⟩:=HX5.out.cells
   have HR3':=hI (HR3.out w5 HX5.out.dsk)
   clear HR3 HX4 HB4 HGC HR2'
   go_wp2_with (go_at_call 63;refine HR3'.out.mono ?_;rintro e w6 ⟨he,hd6,hb6⟩;obtain ⟨v3,rfl,hv3⟩:=erD_v he;have HX6:=hI (HX5.out.disk hb6 hd6);have HB6:=hI (HB5.out.trans (hb6.left h));clear he hd6 hb6)
   rcases hv3 with ⟨rfl,rfl⟩ | ⟨hc3,⟨t3,u3,rfl⟩,hv3⟩
   rotate_left
   ·have HDI:=hI (qlk { l with d:=d3 } h g c3 [qhv] (.iface t3 u3) w6 HX6.out hv3)
    have HRE:Hid (R=shutG l d3 c3):=by show _=_;rw [HM.out,if_pos hc3]
    clear hv3 HM hc3
    go_wp2_with (go_at_call 62;refine HDI.out.mono ?_;rintro e w7 ⟨⟨v,ops,rfl,hv⟩,hl7,hb7⟩;have HV:=hI hv;have HL7:=hI hl7;have HB7:=hI (HB6.out.trans (hb7.right g));clear hv hl7 hb7)
    go_ret
    rw [HQ.out,HRE.out]
    exact ⟨⟨_,_,rfl,HV.out⟩,HL7.out,HB7.out⟩
   rw [if_neg (by decide)] at HM
   obtain ⟨y0,y1,y2,y3,-⟩:=HX6.out.cells
   have z1:=HX6.out.frozen 1
   have z2:=HX6.out.frozen 2
   have z3:=HX6.out.frozen 3
   have HLL:=hI (((HX6.out.setFile t).setEp ep).setSq d.size)
   have HBB:=hI (HB6.out.trans (But.right ((((But.refl h w6).set 1 (.int .i64 (t:Int))).set 2 (.int .i64 (ep:Int))).set 3 (.int .i64 (d.size:Int))) g))
   clear HR3' HX5 HB5
   go_wp2
   go_ret
   rw [HQ.out,HM.out]
   exact ⟨erL_ok _,HLL.out,HBB.out⟩
end Go.Proofs.YtjkecckndfcbjaaGreatDoor
namespace Go.Proofs.YtjkecckndfcbjaaGreatDoor
open Go.RowKit Go.Sort Crc Nb
set_option maxRecDepth 100000
theorem qtb {w:World} {v:Value} (h:ErrV w (if true=true then [logW] else []) (if true=true then 20 else 0) v):(∃ t u,v=.iface t u)∧ErrV w [logW] 20 v:=by
 have h':ErrV w [logW] 20 v:=h
 exact ⟨qar (qdq h' (by decide)),h'⟩
theorem qln {w:World} {v:Value} (h:ErrV w (if false=true then [logW] else []) (if false=true then 20 else 0) v):v=.nilIface:=qef h
set_option maxHeartbeats 4000000 in
theorem qro (l:LG) (h g:Nat) (w:World) (x:LAt w h g l) (hok:l.d.ok) (ho:l.d.ops≤999999990) (hf:l.file=0∨l.file=1) :
 Calls Tryz.prog 28 #[.pointer (some ⟨h,0,none⟩)] w (LogP h g (qiw l) w):=by
 have HU:=hI (qta l h g w x)
 have HX:=hI x
 have HSG:=hI (qnt l hf)
 have HSY:=hI (fun (W:World) (hD:DAt W g l.d)=>qno l.d g (l.file:Int) W hD hok (by omega))
 obtain ⟨q,hq⟩:∃ q,qca l.d (l.file:Int)=q:=⟨_,rfl⟩
 rw [hq] at HSG HSY
 obtain ⟨d1,c1⟩:=q
 have hlt:=x.lth
 generalize hS:qiw l=R at HSG ⊢
 clear x hok hf hq hS
 cases hsh:l.shut
 ·rw [hsh] at HU HSG
  have HRE:Hid (R=shutG l d1 c1):=HSG.out
  rw [HRE.out]
  clear HSG HRE
  go_enter Tryz.func28,Tryz.ntmps28
  go_wp2_with (go_at_call 59;refine HU.out.mono ?_;rintro e w1 ⟨v,rfl,hv,hb⟩;obtain rfl:=qln hv;have HX1:=hI (HX.out.below hb);have HB1:=hI hb;clear hv hb)
  have HX2:=hI HX1.out.drew
  have HB2:=hI ((But2.of (g:=g) (h:=h) HB1.out).drew2)
  have HS2:=hI (HSY.out w1.drew HX2.out.dsk)
  refine qgy (S:=fun W=>W.cell? ⟨h,0,none⟩=some (.pointer (some ⟨g,0,none⟩))∧W.cell? ⟨h,1,none⟩=some (.int .i64 (l.file:Int))) (by kernel_rfl) ?_
  have hS:w1.drew.cell? ⟨h,0,none⟩=some (.pointer (some ⟨g,0,none⟩))∧w1.drew.cell? ⟨h,1,none⟩=some (.int .i64 (l.file:Int)):=⟨HX2.out.cells.1,HX2.out.cells.2.1⟩
  refine tkF 9 0 rfl rfl hS ?_
  simp only [Act.put,sA,s0,s1]
  refine tkF 10 1 rfl rfl hS ?_
  simp only [Act.put,sA,s0,s1]
  refine tkF 11 2 rfl rfl hS ?_
  simp only [Act.put,sA,s0,s1]
  refine tkF 12 3 rfl rfl hS ?_
  simp only [Act.put,sA,s0,s1]
  refine tkF 13 4 rfl rfl hS ?_
  simp only [Act.put,sA,s0,s1]
  refine tkF 14 5 rfl rfl hS ?_
  simp only [Act.put,sA,s0,s1]
  refine tkF 15 6 rfl rfl hS ?_
  simp only [Act.put,sA,s0,s1]
  refine tkF 16 7 rfl rfl hS ?_
  simp only [Act.put,sA,s0,s1]
  refine tkF 17 8 rfl rfl hS ?_
  simp only [Act.put,sA,s0,s1]
  refine rdy1 9 rfl (fun K hK=>?_)
  go_simp
  refine HS2.out.mono ?_
  rintro e w3 ⟨⟨v,rfl,hv⟩,hd3,hb3⟩
  have HX3:=hI (HX2.out.disk hb3 hd3)
  have HB3:=hI (HB2.out.trans (hb3.left h))
  have HDI:=hI (qlk { l with d:=d1 } h g c1 _ v w3 HX3.out hv)
  have hS3:w3.cell? ⟨h,0,none⟩=some (.pointer (some ⟨g,0,none⟩))∧w3.cell? ⟨h,1,none⟩=some (.int .i64 (l.file:Int)):=⟨HX3.out.cells.1,HX3.out.cells.2.1⟩
  refine hK.out _ _ hS3 (fun _=>?_)
  clear hK K hv hd3 hb3 hS
  refine rdy1 10 rfl (fun K hK=>?_)
  go_simp
  refine HDI.out.mono ?_
  rintro e w4 ⟨⟨v,ops,rfl,hv⟩,hl4,hb4⟩
  have HV:=hI hv
  have HL4:=hI hl4
  have HB4:=hI (HB3.out.trans (hb4.right g))
  have hS4:w4.cell? ⟨h,0,none⟩=some (.pointer (some ⟨g,0,none⟩))∧w4.cell? ⟨h,1,none⟩=some (.int .i64 (l.file:Int)):=⟨HL4.out.cells.1,HL4.out.cells.2.1⟩
  refine hK.out _ _ hS4 (fun _=>?_)
  clear hK K hv hl4 hb4 hS3
  refine tkF 2 11 rfl rfl hS4 ?_
  simp only [Act.put,sA,s0,s1]
  refine qgx (by kernel_rfl) ?_ _
  go_wp2
  go_ret
  exact ⟨⟨_,_,rfl,HV.out⟩,HL4.out,HB4.out⟩
 ·rw [hsh] at HU HSG
  have HRE:Hid (R=(l,20)):=HSG.out
  rw [HRE.out]
  clear HSG HRE
  go_enter Tryz.func28,Tryz.ntmps28
  go_wp2_with (go_at_call 59;refine HU.out.mono ?_;rintro e w1 ⟨v,rfl,hv,hb⟩;obtain ⟨⟨t1,u1,rfl⟩,hv1⟩:=qtb hv;have HV:=hI hv1;have HB1:=hI hb;clear hv hv1 hb)
  go_ret
  exact ⟨⟨_,_,rfl,HV.out⟩,HX.out.below HB1.out,But2.of HB1.out⟩
set_option maxHeartbeats 4000000 in
theorem qmr (l:LG) (h g:Nat) (st:ByteArray) (w:World) (hg:Glob w) (x:LAt w h g l) (hok:l.d.ok) (ho:l.d.ops≤999999990) (hf:l.file=0∨l.file=1) (hep:l.ep≤1000000) :
 Calls Tryz.prog 29 #[.pointer (some ⟨h,0,none⟩),.string st] w (LogP h g (qdt l st) w):=by
 have HU:=hI (qta l h g w x)
 have HX:=hI x
 have HW9:=hI (fun (W:World)=>qfm 9 W (by omega))
 have HLA:Hid (∀ W:World,Below w.heap.size w W→Calls Tryz.prog 37 #[.pointer (some ⟨h,0,none⟩),.int .i64 ((l.ep:Int) + 1),.string st,.slice none 0 0] W (LogP h g (layP l (l.ep + 1) st []) W)):=fun W hb =>
  qos l h g (l.ep + 1) st none 0 #[] W (hg.below hb) (x.below hb) hok ho hf (fun h=>absurd h (Nat.lt_irrefl 0)) (by decide) (fun i hi=>absurd hi (Nat.not_lt_zero i))
 have HPG:Hid (qdt l st=if l.shut then (l,20) else if 1000000≤l.ep then (l,9) else layP l (l.ep + 1) st []):=rfl
 generalize qdt l st=R at HPG ⊢
 generalize layP l (l.ep + 1) st []=R2 at HPG HLA
 clear hok hf hg ho
 cases hsh:l.shut
 ·rw [hsh] at HU HPG
  by_cases h9:1000000≤l.ep
  ·have HRE:Hid (R=(l,9)):=by show _=_;rw [HPG.out,if_neg (by decide),if_pos h9]
   rw [HRE.out]
   have h9':(1000000:Int)≤(l.ep:Int):=by omega
   clear HPG HRE x h9
   go_enter Tryz.func29,Tryz.ntmps29
   go_wp2_with (go_at_call 59;refine HU.out.mono ?_;rintro e w1 ⟨v,rfl,hv,hb⟩;obtain rfl:=qln hv;have HX1:=hI (HX.out.below hb);have HB1:=hI hb;obtain ⟨-,-,y2,-,-⟩:=HX1.out.cells;clear hv hb)
   go_wp2_with (go_at_call 38;refine (HW9.out _).mono ?_;rintro e w3 ⟨v,rfl,hch,hb3⟩;have HCH:=hI hch;have HB3:=hI (qad HB1.out hb3);clear hch hb3)
   go_ret
   exact ⟨qlj (c:=9) (by decide) HCH.out,HX.out.below HB3.out,But2.of HB3.out⟩
  ·have HRE:Hid (R=R2):=by show _=_;rw [HPG.out,if_neg (by decide),if_neg h9]
   rw [HRE.out]
   have h9':decide ((1000000:Int)≤(l.ep:Int))=false:=decide_eq_false (by omega)
   clear HPG HRE x h9
   go_enter Tryz.func29,Tryz.ntmps29
   go_wp2_with (go_at_call 59;refine HU.out.mono ?_;rintro e w1 ⟨v,rfl,hv,hb⟩;obtain rfl:=qln hv;have HX1:=hI (HX.out.below hb);have HB1:=hI hb;obtain ⟨-,-,y2,-,-⟩:=HX1.out.cells;clear hv hb)
   have HL1:=hI (HLA.out w1 HB1.out)
   go_wp2_with (go_at_call 37;refine HL1.out.mono ?_;rintro e w4 ⟨⟨v,ops,rfl,hv⟩,hl4,hb4⟩;have HV:=hI hv;have HL4:=hI hl4;have HB4:=hI ((But2.of HB1.out).trans hb4);clear hv hl4 hb4)
   go_ret
   exact ⟨⟨_,_,rfl,HV.out⟩,HL4.out,HB4.out⟩
 ·rw [hsh] at HU HPG
  have HRE:Hid (R=(l,20)):=HPG.out
  rw [HRE.out]
  clear HPG HRE x
  go_enter Tryz.func29,Tryz.ntmps29
  go_wp2_with (go_at_call 59;refine HU.out.mono ?_;rintro e w1 ⟨v,rfl,hv,hb⟩;obtain ⟨⟨t1,u1,rfl⟩,hv1⟩:=qtb hv;have HV:=hI hv1;have HB1:=hI hb;clear hv hv1 hb)
  go_ret
  exact ⟨⟨_,_,rfl,HV.out⟩,HX.out.below HB1.out,But2.of HB1.out⟩
theorem qrp (w:World) :
 Calls Tryz.prog 28 #[.pointer none] w fun e w'=>∃ v,e=.returned v∧Chain w' [logW] 1 v∧Below w.heap.size w w':=by
 have HU:=hI (qxn w)
 go_enter Tryz.func28,Tryz.ntmps28
 go_wp2_with (go_at_call 59;refine HU.out.mono ?_;rintro e w1 ⟨v,rfl,hch,hb⟩;obtain ⟨t1,u1,rfl⟩:∃ t u,v=.iface t u:=qar hch;have HV:=hI hch;have HB1:=hI hb;clear hch hb)
 go_ret
 exact ⟨_,rfl,HV.out,HB1.out⟩
set_option maxHeartbeats 8000000 in
theorem qot (l:LG) (h g:Nat) (ev:EV) (w:World) (hg:Glob w) (x:LAt w h g l) (hok:l.d.ok) (ho:l.d.ops≤999999990) (hf:l.file=0∨l.file=1) (hsq:l.sq≤1000000) (hez:ev.2.size≤1000000) :
 Calls Tryz.prog 26 #[.pointer (some ⟨h,0,none⟩),.agg #[.int .i64 ev.1,.string ev.2]] w (LogP h g (addG l ev) w):=by
 obtain ⟨kd,dt⟩:=ev
 dsimp only at hez ⊢
 have HB0:Hid (Below w.heap.size w (w.alloc (.cells #[.int .i64 kd,.string dt] 56))):=bel1 w _
 have HU:=hI (qta l h g _ (x.below HB0.out))
 have HX:=hI x
 have HW9:=hI (fun (W:World)=>qfm 9 W (by omega))
 have HGA:=hI (fun (W:World)=>qmq W)
 have hHA:h < w.heap.size:=x.lth
 have hGA:g < w.heap.size:=x.ltg
 have HAQ:=hI (qsk l hf (kd,dt))
 have HGL:=hI (fun (W:World) (hb:Below w.heap.size w W)=>hg.below hb)
 generalize addG l (kd,dt)=R at HAQ ⊢
 have HOK:=hI hok
 clear x hok hf hg
 cases hsh:l.shut
 rotate_left
 ·rw [hsh] at HU
  have HRE:Hid (R=(l,20)):=by show _=_;rw [HAQ.out];unfold addM;rw [if_pos hsh]
  rw [HRE.out]
  clear HAQ HRE
  go_enter Tryz.func26,Tryz.ntmps26
  go_wp2_with (go_at_call 59;refine HU.out.mono ?_;rintro e w1 ⟨v,rfl,hv,hb⟩;obtain ⟨⟨t1,u1,rfl⟩,hv1⟩:=qtb hv;have HV:=hI hv1;have HB1:=hI (qad HB0.out hb);clear hv hv1 hb)
  go_ret
  exact ⟨⟨_,_,rfl,HV.out⟩,HX.out.below HB1.out,But2.of HB1.out⟩
 rw [hsh] at HU
 by_cases h9:1000000≤l.sq
 ·have HRE:Hid (R=(l,9)):=by show _=_;rw [HAQ.out];unfold addM;rw [if_neg (by rw [hsh];simp),if_pos h9]
  rw [HRE.out]
  have h9':(1000000:Int)≤(l.sq:Int):=by omega
  clear HAQ HRE h9
  go_enter Tryz.func26,Tryz.ntmps26
  go_wp2_with (go_at_call 59;refine HU.out.mono ?_;rintro e w1 ⟨v,rfl,hv,hb⟩;obtain rfl:=qln hv;have HB1:=hI (qad HB0.out hb);have HX1:=hI (HX.out.below HB1.out);obtain ⟨-,-,-,y3,-⟩:=HX1.out.cells;clear hv hb)
  go_wp2_with (go_at_call 38;refine (HW9.out _).mono ?_;rintro e w3 ⟨v,rfl,hch,hb3⟩;have HCH:=hI hch;have HB3:=hI (qad HB1.out hb3);clear hch hb3)
  go_ret
  exact ⟨qlj (c:=9) (by decide) HCH.out,HX.out.below HB3.out,But2.of HB3.out⟩
 have h9':decide ((1000000:Int)≤(l.sq:Int))=false:=decide_eq_false (by omega)
 have HRM:Hid (R=if recC (evR l.ep (l.sq + 1) (kd,dt))≠0 then (l,2) else
  if (appQ l.d (l.file:Int) ⟨(qak (recB (evR l.ep (l.sq + 1) (kd,dt)))).toArray⟩).2≠0 then shutG l (appQ l.d (l.file:Int) ⟨(qak (recB (evR l.ep (l.sq + 1) (kd,dt)))).toArray⟩).1 (appQ l.d (l.file:Int) ⟨(qak (recB (evR l.ep (l.sq + 1) (kd,dt)))).toArray⟩).2 else
  (⟨(appQ l.d (l.file:Int) ⟨(qak (recB (evR l.ep (l.sq + 1) (kd,dt)))).toArray⟩).1,l.file,l.ep,l.sq + 1,l.shut⟩,0)):=by
  show _=_
  rw [HAQ.out]
  unfold addM
  rw [if_neg (by rw [hsh];simp),if_neg h9]
 clear HAQ h9
 go_enter Tryz.func26,Tryz.ntmps26
 go_wp2_with (go_at_call 59;refine HU.out.mono ?_;rintro e w1 ⟨v,rfl,hv,hb⟩;obtain rfl:=qln hv;have HB1:=hI (qad HB0.out hb);have HX1:=hI (HX.out.below HB1.out);have HE1:Hid (w1.heap[w.heap.size]?=some (.cells #[.int .i64 kd,.string dt] 56 (0,0))):=(hb.block _ (by simp)).trans (qas w _);obtain ⟨y0,y1,y2,y3,-⟩:=HX1.out.cells;clear hv hb)
 have e0:w1.cell? ⟨w.heap.size,0,none⟩=some (.int .i64 kd):=by rw [qac HE1.out];rfl
 have e1:w1.cell? ⟨w.heap.size,1,none⟩=some (.string dt):=by rw [qac HE1.out];rfl
 have l1:w.heap.size < w1.heap.size:=qaa HE1.out
 have l2:h < w1.heap.size:=by omega
 obtain ⟨w2,hw2⟩:∃ W,w1.alloc (.cells #[.string ⟨#[]⟩] 9)=W:=⟨_,rfl⟩
 have HGW:Hid (Calls Tryz.prog 60 #[] w1 fun e w'=>e=.returned (.tuple #[.func (.func 86) #[] #[.pointer (some ⟨w1.heap.size,0,none⟩)],.func (.func 89) #[] #[.pointer (some ⟨w1.heap.size,0,none⟩)]])∧w'=w2):=by rw [←hw2];exact HGA.out w1
 have hb2:Below w1.heap.size w1 w2:=by rw [←hw2];exact bel1 w1 _
 have HG2:Hid (GAt w2.drew w1.heap.size ⟨#[]⟩):=by rw [←hw2];exact qas w1 _
 have HB2:=hI (qad HB1.out hb2).drew
 have HX2:=hI (HX1.out.below hb2).drew
 have HE2:Hid (w2.heap[w.heap.size]?=some (.cells #[.int .i64 kd,.string dt] 56 (0,0))):=(hb2.block _ l1).trans HE1.out
 clear hw2 hb2 y0 y1 y2 y3 e0 e1
 obtain ⟨y0,y1,y2,y3,-⟩:=HX2.out.cells
 have e0:w2.cell? ⟨w.heap.size,0,none⟩=some (.int .i64 kd):=by rw [qac HE2.out];rfl
 have e1:w2.cell? ⟨w.heap.size,1,none⟩=some (.string dt):=by rw [qac HE2.out];rfl
 have y2':w2.cell? ⟨h,2,none⟩=some (.int .i64 (l.ep:Int)):=y2
 have y3':w2.cell? ⟨h,3,none⟩=some (.int .i64 (l.sq:Int)):=y3
 clear y0 y1 y2 y3
 have hza:w1.heap.size≠g:=by omega
 have hzh:w1.heap.size≠h:=by omega
 by_cases hrc:recC (evR l.ep (l.sq + 1) (kd,dt))=0
 rotate_left
 ·have HRE:Hid (R=(l,2)):=by show _=_;rw [HRM.out,if_pos hrc]
  have HC:=hI (qfd (evR l.ep (l.sq + 1) (kd,dt)) w1.heap.size w2.drew (HGL.out _ HB2.out) hez hrc)
  unfold recV evR at HC
  dsimp only at HC
  clear HRM hrc HG2
  go_wp2_with (go_at_call 60;refine HGW.out.mono ?_;rintro _ _ ⟨rfl,rfl⟩)
  go_still_tail 12,(by kernel_rfl)
  go_wp2_with (go_at_call 86;refine HC.out.mono ?_;rintro e w3 ⟨⟨v,ops,rfl,hv⟩,hb3⟩;(have hch:=qdq hv (by decide));obtain ⟨t1,u1,rfl⟩:∃ t u,v=.iface t u:=qar hch;have HV:=hI hv;have HB3:=hI (qad HB2.out hb3);clear hv hch hb3)
  go_ret
  rw [HRE.out]
  exact ⟨⟨_,_,rfl,HV.out⟩,HX.out.below HB3.out,But2.of HB3.out⟩
 rw [if_neg (by rw [hrc];simp)] at HRM
 have hbz:(⟨(qak (recB (evR l.ep (l.sq + 1) (kd,dt)))).toArray⟩:ByteArray).size≤2000000000:=by rw [qaz];have:=qnz hrc;omega
 have HC:=hI (qfz (evR l.ep (l.sq + 1) (kd,dt)) w1.heap.size ⟨#[]⟩ w2.drew (HGL.out _ HB2.out) HG2.out (by decide) hez hrc)
 rw [show (⟨#[]⟩:ByteArray) ++ ⟨(qak (recB (evR l.ep (l.sq + 1) (kd,dt)))).toArray⟩=⟨(qak (recB (evR l.ep (l.sq + 1) (kd,dt)))).toArray⟩ from qik [] _] at HC
 generalize (⟨(qak (recB (evR l.ep (l.sq + 1) (kd,dt)))).toArray⟩:ByteArray)=bs at HC HRM hbz
 unfold recV evR at HC
 dsimp only at HC
 obtain ⟨q,hq⟩:∃ q,appQ l.d (l.file:Int) bs=q:=⟨_,rfl⟩
 have HR2:=hI (fun (W:World) (hD:DAt W g l.d)=>qip l.d g (l.file:Int) bs W hD HOK.out (by omega) hbz)
 rw [hq] at HRM HR2
 obtain ⟨d2,c2⟩:=q
 dsimp only at HRM
 clear hrc HG2 hq hbz
 go_wp2_with (go_at_call 60;refine HGW.out.mono ?_;rintro _ _ ⟨rfl,rfl⟩)
 go_still_tail 12,(by kernel_rfl)
 go_wp2_with (go_at_call 86;refine HC.out.mono ?_;rintro _ w3 ⟨rfl,hG3,hb3⟩;have HX3:=hI (HX2.out.but hb3 hza.symm hzh.symm);have HB3:=hI ((But.below hb3 HB2.out HB1.out.size HB2.out.size));have HG3:=hI hG3;clear hG3 hb3)
 obtain ⟨y0,y1,-,-,-⟩:=HX3.out.cells
 have g0:w3.cell? ⟨w1.heap.size,0,none⟩=some (.string bs):=HG3.out.cell
 have HX4:=hI HX3.out.drew
 have HB4:=hI (But2.of (g:=g) (h:=h) HB3.out.drew)
 have HGC:=hI (qll w1.heap.size bs w3.drew HG3.out.cell)
 have HR2':=hI (HR2.out w3.drew HX4.out.dsk)
 refine wp_region_still_tail 10 (by kernel_rfl) (by kernel_rfl) ?_
 simp only [List.take_succ_cons,List.take_zero,List.drop_succ_cons,List.drop_zero]
 repeat still_step
 still_call ((HGC.out).mono (fun _ _ h=>⟨h.1,h.2.symm⟩))
 refine wpStill_nil ?_
 go_wp2_with (go_at_call 61;refine HR2'.out.mono ?_;rintro e w5 ⟨he,hd5,hb5⟩;obtain ⟨v2,rfl,hv2⟩:=erD_v he;have HX5:=hI (HX4.out.disk hb5 hd5);have HB5:=hI (HB4.out.trans (hb5.left h));clear he hd5 hb5)
 rcases hv2 with ⟨rfl,rfl⟩ | ⟨hc2,⟨t2,u2,rfl⟩,hv2⟩
 rotate_left
 ·have HDI:=hI (qlk { l with d:=d2 } h g c2 [qhv] (.iface t2 u2) w5 HX5.out hv2)
  have HRE:Hid (R=shutG l d2 c2):=by show _=_;rw [HRM.out,if_pos hc2]
  clear hv2 HRM hc2
  go_wp2_with (go_at_call 62;refine HDI.out.mono ?_;rintro e w6 ⟨⟨v,ops,rfl,hv⟩,hl6,hb6⟩;have HV:=hI hv;have HL6:=hI hl6;have HB6:=hI (HB5.out.trans (hb6.right g));clear hv hl6 hb6)
  go_ret
  rw [HRE.out]
  exact ⟨⟨_,_,rfl,HV.out⟩,HL6.out,HB6.out⟩
 rw [if_neg (by decide)] at HRM
 obtain ⟨y0,y1,y2,y3,-⟩:=HX5.out.cells
 have z3:=HX5.out.frozen 3
 have HLL:=hI (HX5.out.setSq (l.sq + 1))
 have HBB:=hI (HB5.out.trans (But.right ((But.refl h w5).set 3 (.int .i64 ((l.sq:Int) + 1))) g))
 go_wp2
 go_ret
 rw [HRM.out]
 exact ⟨erL_ok _,HLL.out,HBB.out⟩
end Go.Proofs.YtjkecckndfcbjaaGreatDoor
