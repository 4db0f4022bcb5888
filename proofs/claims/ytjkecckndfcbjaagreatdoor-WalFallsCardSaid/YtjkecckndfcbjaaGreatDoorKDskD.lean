/- Texts that the law leans on. -/
import Derived.Test.YtjkecckndfcbjaaGreatDoorKDskC
import Derived.Test.YtjkecckndfcbjaaGreatDoorKMsgD
import Derived.Test.YtjkecckndfcbjaaGreatDoorKNumA
import Derived.Test.YtjkecckndfcbjaaGreatDoorKMsgF
namespace Go.Proofs.YtjkecckndfcbjaaGreatDoor
open Go.RowKit
set_option maxRecDepth 100000
theorem qao (w:World) (o:Obj):(w.alloc o).heap[w.heap.size]?=some o:=by
 show (w.heap.push o)[w.heap.size]?=_
 simp
def freshD (room:Nat):DK:=⟨zF,zF,room,0,0,false⟩
theorem qlm (n:Nat) (w:World) (h1:1≤n) (h2:n≤1000000) :
 Calls Tryz.prog 8 #[.int .i64 (n:Int)] w fun e w'=>∃ g,w.heap.size≤g∧e=.returned (.tuple #[.pointer (some ⟨g,0,none⟩),.nilIface])∧DAt w' g (freshD n)∧Below w.heap.size w w':=by
 have k1:1≤(n:Int):=by omega
 have k2:(n:Int)≤1000000:=by omega
 have k3:decide ((n:Int) < 1)=false:=decide_eq_false (by omega)
 clear h1 h2
 go_enter Tryz.func8,Tryz.ntmps8
 go_wp2
 refine bodyPost_ret (v:=.tuple #[.pointer (some ⟨w.heap.size,0,none⟩),.nilIface]) (by simp [results,Tryz.results8,go_sem]) rfl ⟨w.heap.size,Nat.le_refl _,rfl,?_,bel1 w _⟩
 exact qao w _
def qdz (d:DK) (f:Int):ByteArray×Nat:=if d.up f≠0 then (⟨#[]⟩,d.up f) else ((d.get f.toNat).s,0)
theorem qje (d:DK) (g:Nat) (f:Int) (w:World) (h:DAt w g d) (hok:d.ok) :
 Calls Tryz.prog 33 #[.pointer (some ⟨g,0,none⟩),.int .i64 f] w fun e w'=>∃ v,e=.returned (.tuple #[.string (qdz d f).1,v])∧ErrV w' (if (qdz d f).2=0 then [] else [qie]) ((qdz d f).2:Int) v∧Below w.heap.size w w':=by
 have H1:=hI (qqp d g f w h hok.one)
 have hfew:=qva d f
 by_cases hu:d.up f=0
 ·obtain ⟨hdd,k,hk,hf⟩:=qom hu
  have hkt:f.toNat=k:=by omega
  have HQ:Hid (qdz d f=((d.get k).s,0)):=by show _=_;unfold qdz;rw [if_neg (by omega),hkt]
  rw [HQ.out]
  rw [hu] at H1
  subst hf
  obtain ⟨c0,-,-,c3,-,-,-,-,-,-⟩:=h.cells
  clear h hok hfew hu hkt HQ
  rcases hk with rfl | rfl
  all_goals
   go_enter Tryz.func33,Tryz.ntmps33
   go_wp2_with (go_at_call 52;refine H1.out.mono ?_;rintro _ _ ⟨rfl,rfl⟩)
  ·refine bodyPost_ret (v:=.tuple #[.string d.f0.s,.nilIface]) (by simp [results,Tryz.results33,go_sem]) rfl ⟨_,rfl,Or.inl ⟨rfl,rfl,rfl⟩,Below.refl _ _⟩
  ·refine bodyPost_ret (v:=.tuple #[.string d.f1.s,.nilIface]) (by simp [results,Tryz.results33,go_sem]) rfl ⟨_,rfl,Or.inl ⟨rfl,rfl,rfl⟩,Below.refl _ _⟩
 ·have HQ:Hid (qdz d f=(⟨#[]⟩,d.up f)):=by show _=_;unfold qdz;rw [if_pos hu]
  rw [HQ.out]
  have hu':(((d.up f:Nat):Int) != 0)=true:=by simp;omega
  have HT:=hI (fun (W:World)=>qda (d.up f:Int) W (by omega))
  generalize d.up f=u at H1 HT hu hu' ⊢
  clear h hok hfew HQ
  go_enter Tryz.func33,Tryz.ntmps33
  go_wp2_with (first | (go_at_call 52;refine H1.out.mono ?_;rintro _ _ ⟨rfl,rfl⟩) | (go_at_call 32;refine (HT.out _).mono ?_;rintro e w3 ⟨v,rfl,hch,hb3⟩;have HCH:=hI hch;have HB3:=hI hb3;clear hch hb3))
  refine bodyPost_ret (v:=.tuple #[.string ⟨#[]⟩,v]) (by simp [results,Tryz.results33,go_sem]) rfl ⟨v,rfl,Or.inr ⟨by show (u:Int)≠0;omega,by first | exact HCH.out | (rw [if_neg hu];exact HCH.out)⟩,HB3.out⟩
theorem qnb (d:DK) (g k:Nat) (w:World) (h:DAt w g d) (hok:d.ok) (hk:k=0∨k=1) :
 Calls Tryz.prog 49 #[.pointer (some ⟨g,0,none⟩),.int .i64 (k:Int)] w fun e w'=>e=.returned (.int .i64 ((d.get k).safe:Int))∧w=w':=by
 have HM:=hI (qhd d g w h hok.one)
 obtain ⟨-,c1,-,-,c4,-,-,-,-,-⟩:=h.cells
 clear h hok
 rcases hk with rfl | rfl
 all_goals
  go_enter Tryz.func49,Tryz.ntmps49
  go_wp2_with (go_at_call 57;refine HM.out.mono ?_;rintro _ _ ⟨rfl,rfl⟩)
  go_ret
  exact ⟨rfl,rfl⟩
theorem dead_any (d:DK) (g:Nat) (w:World) (h:DAt w g d) (hok:d.ok) :
 Calls Tryz.prog 50 #[.pointer (some ⟨g,0,none⟩)] w fun e w'=>e=.returned (.bool d.dead)∧w=w':=by
 have HM:=hI (qhd d g w h hok.one)
 obtain ⟨-,-,-,-,-,-,-,-,-,c9⟩:=h.cells
 clear h hok
 generalize d.dead=b at c9 ⊢
 cases b
 all_goals
  go_enter Tryz.func50,Tryz.ntmps50
  go_wp2_with (go_at_call 57;refine HM.out.mono ?_;rintro _ _ ⟨rfl,rfl⟩)
  go_ret
  exact ⟨rfl,rfl⟩
theorem ops_any (d:DK) (g:Nat) (w:World) (h:DAt w g d) (hok:d.ok) :
 Calls Tryz.prog 51 #[.pointer (some ⟨g,0,none⟩)] w fun e w'=>e=.returned (.int .i64 (d.ops:Int))∧w=w':=by
 have HM:=hI (qhd d g w h hok.one)
 obtain ⟨-,-,-,-,-,-,-,c7,-,-⟩:=h.cells
 clear h hok
 go_enter Tryz.func51,Tryz.ntmps51
 go_wp2_with (go_at_call 57;refine HM.out.mono ?_;rintro _ _ ⟨rfl,rfl⟩)
 go_ret
 exact ⟨rfl,rfl⟩
def armQ (d:DK) (k:Int):DK×Nat:=if d.dead then (d,20) else if k < 1∨1000000 < k then (d,2) else ({ d with arm:=k.toNat },0)
theorem arm_any (d:DK) (g:Nat) (k:Int) (w:World) (h:DAt w g d) (hok:d.ok) :
 Calls Tryz.prog 19 #[.pointer (some ⟨g,0,none⟩),.int .i64 k] w (DskP g (armQ d k) w):=by
 have H1:=hI (qqp d g 0 w h hok.one)
 have H:=hI h
 have HT2:=hI (fun (W:World)=>qda 2 W (by omega))
 have HT20:=hI (fun (W:World)=>qda 20 W (by omega))
 cases hd:d.dead
 ·have hu:d.up 0=0:=by unfold DK.up;rw [hd];rfl
  rw [hu] at H1
  by_cases hk:k < 1∨1000000 < k
  ·have HQ:Hid (armQ d k=(d,2)):=by show _=_;unfold armQ;rw [if_neg (by rw [hd];simp),if_pos hk]
   rw [HQ.out]
   clear h hok HQ hu hd
   by_cases hk1:k < 1
   ·clear hk
    go_enter Tryz.func19,Tryz.ntmps19
    go_wp2_with (first | (go_at_call 52;refine H1.out.mono ?_;rintro _ _ ⟨rfl,rfl⟩) | (go_at_call 32;refine (HT2.out _).mono ?_;rintro e w3 ⟨v,rfl,hch,hb3⟩;have HCH:=hI hch;have HB3:=hI hb3;clear hch hb3))
    go_ret
    exact ⟨qfh (c:=2) (by decide) HCH.out,H.out.below HB3.out,But.of HB3.out⟩
   ·have hk2:1000000 < k:=by omega
    have hk3:decide (k < 1)=false:=decide_eq_false hk1
    clear hk
    go_enter Tryz.func19,Tryz.ntmps19
    go_wp2_with (first | (go_at_call 52;refine H1.out.mono ?_;rintro _ _ ⟨rfl,rfl⟩) | (go_at_call 32;refine (HT2.out _).mono ?_;rintro e w3 ⟨v,rfl,hch,hb3⟩;have HCH:=hI hch;have HB3:=hI hb3;clear hch hb3))
    go_ret
    exact ⟨qfh (c:=2) (by decide) HCH.out,H.out.below HB3.out,But.of HB3.out⟩
  ·obtain ⟨n,hn,hkn⟩:∃ n:Nat,k.toNat=n∧k=(n:Int):=⟨k.toNat,rfl,by omega⟩
   have HQ:Hid (armQ d k=({ d with arm:=n },0)):=by show _=_;unfold armQ;rw [if_neg (by rw [hd];simp),if_neg hk,hn]
   rw [HQ.out]
   subst hkn
   obtain ⟨-,-,-,-,-,-,-,-,c8,-⟩:=h.cells
   have z8:=h.frozen 8
   have k1:decide ((n:Int) < 1)=false:=decide_eq_false (by omega)
   have k2:decide (1000000 < (n:Int))=false:=decide_eq_false (by omega)
   clear h hok HQ hu hd hk hn
   go_enter Tryz.func19,Tryz.ntmps19
   go_wp2_with (go_at_call 52;refine H1.out.mono ?_;rintro _ _ ⟨rfl,rfl⟩)
   go_ret
   exact ⟨qqt _,H.out.arm n,(But.refl g w).set 8 _⟩
 ·have hu:d.up 0=20:=by unfold DK.up;rw [hd];rfl
  rw [hu] at H1
  have HQ:Hid (armQ d k=(d,20)):=by show _=_;unfold armQ;rw [if_pos hd]
  rw [HQ.out]
  clear h hok HQ hu hd
  go_enter Tryz.func19,Tryz.ntmps19
  go_wp2_with (first | (go_at_call 52;refine H1.out.mono ?_;rintro _ _ ⟨rfl,rfl⟩) | (go_at_call 32;refine (HT20.out _).mono ?_;rintro e w3 ⟨v,rfl,hch,hb3⟩;have HCH:=hI hch;have HB3:=hI hb3;clear hch hb3))
  go_ret
  exact ⟨qfh (c:=20) (by decide) HCH.out,H.out.below HB3.out,But.of HB3.out⟩
theorem off_any (d:DK) (g:Nat) (w:World) (h:DAt w g d) (hok:d.ok) :
 Calls Tryz.prog 22 #[.pointer (some ⟨g,0,none⟩)] w (DskP g ({ d with dead:=true },0) w):=by
 have HM:=hI (qhd d g w h hok.one)
 have H:=hI h
 obtain ⟨-,-,-,-,-,-,-,-,-,c9⟩:=h.cells
 have z9:=h.frozen 9
 clear h hok
 go_enter Tryz.func22,Tryz.ntmps22
 go_wp2_with (go_at_call 57;refine HM.out.mono ?_;rintro _ _ ⟨rfl,rfl⟩)
 go_ret
 exact ⟨qqt _,H.out.dead true,(But.refl g w).set 9 _⟩
end Go.Proofs.YtjkecckndfcbjaaGreatDoor
namespace Go.Proofs.YtjkecckndfcbjaaGreatDoor
def fstB:ByteArray:=⟨#[102,105,114,115,116]⟩
def othB:ByteArray:=⟨#[111,116,104,101,114]⟩
def nxtB:ByteArray:=⟨#[110,101,120,116]⟩
def aw1:OG:=qbz (newD 1000) fstB
def aw2:LG×Nat:=addG aw1.l (3,⟨#[]⟩)
def aw3:LG×Nat:=qgo aw2.1
def aw4:LG×Nat:=addG aw3.1 (0,⟨#[]⟩)
def aw5:OG:=qbz aw4.1.d othB
def aw6:LG×Nat:=qbt aw5.l nxtB
def aw7:OG:=qbz aw6.1.d othB
def LOK (l:LG):Prop:=l.d.ok∧l.d.ops≤100∧(l.file=0∨l.file=1)∧l.sq≤10∧l.ep≤10
theorem qsy:aw1.e=0∧aw1.st=fstB∧aw1.evs.length=0:=by decide +kernel
theorem aw2_all:aw2.2=0:=by decide +kernel
theorem aw3_all:aw3.2=0:=by decide +kernel
theorem qsz:aw4.2=2∧aw4.1.sq=1:=by decide +kernel
def tkE:List EV:=[(3,⟨#[]⟩)]
def aw5l:LG:=⟨aw4.1.d,0,1,1,false⟩
theorem aw4_t0:qai aw4.1.d.f0=⟨1,fstB,tkE,(ptF 1 fstB tkE).length⟩:=qhf (by decide +kernel) (by decide +kernel)
theorem aw4_t1:qai aw4.1.d.f1=zT:=by
 have h:aw4.1.d.f1.s.data.toList=[]:=by decide +kernel
 show qdb aw4.1.d.f1.s.data.toList=_
 rw [h]
 exact qif
theorem aw5_eq:aw5=⟨aw5l,fstB,tkE,0⟩:=by
 unfold aw5 qbz
 rw [aw4_t0,aw4_t1,if_neg (by decide +kernel),if_neg (by decide +kernel),if_neg (by decide +kernel),if_pos (by decide +kernel)]
 unfold qdw
 rw [if_pos (by decide +kernel)]
 rfl
def aw6l:LG×Nat:=qbt aw5l nxtB
theorem aw6_eq:aw6=aw6l:=by unfold aw6 aw6l;rw [aw5_eq]
theorem qta:aw6l.2=0∧aw6l.1.ep=2∧aw6l.1.sq=0:=by decide +kernel
theorem aw6_t0:qai aw6l.1.d.f0=⟨1,fstB,tkE,(ptF 1 fstB tkE).length⟩:=qhf (by decide +kernel) (by decide +kernel)
theorem aw6_t1:qai aw6l.1.d.f1=⟨2,nxtB,[],(ptF 2 nxtB []).length⟩:=qhf (by decide +kernel) (by decide +kernel)
theorem aw7_all:∃ l,aw7=⟨l,nxtB,[],0⟩:=by
 unfold aw7 qbz
 rw [aw6_eq,aw6_t0,aw6_t1,if_neg (by decide +kernel),if_neg (by decide +kernel),if_neg (by decide +kernel),if_neg (by decide +kernel)]
 unfold qdw
 rw [if_pos (by decide +kernel)]
 exact ⟨_,rfl⟩
theorem qtb:(newD 1000).ok:=⟨by decide +kernel,by decide +kernel,by decide +kernel,by decide +kernel,by decide +kernel,by decide +kernel⟩
theorem qvd:LOK aw1.l:=⟨⟨by decide +kernel,by decide +kernel,by decide +kernel,by decide +kernel,by decide +kernel,by decide +kernel⟩,by decide +kernel,by decide +kernel,by decide +kernel,by decide +kernel⟩
theorem aw2_ok:LOK aw2.1:=⟨⟨by decide +kernel,by decide +kernel,by decide +kernel,by decide +kernel,by decide +kernel,by decide +kernel⟩,by decide +kernel,by decide +kernel,by decide +kernel,by decide +kernel⟩
theorem qve:LOK aw3.1:=⟨⟨by decide +kernel,by decide +kernel,by decide +kernel,by decide +kernel,by decide +kernel,by decide +kernel⟩,by decide +kernel,by decide +kernel,by decide +kernel,by decide +kernel⟩
theorem aw4_ok:LOK aw4.1:=⟨⟨by decide +kernel,by decide +kernel,by decide +kernel,by decide +kernel,by decide +kernel,by decide +kernel⟩,by decide +kernel,by decide +kernel,by decide +kernel,by decide +kernel⟩
theorem aw5_ok:LOK aw5l:=⟨⟨by decide +kernel,by decide +kernel,by decide +kernel,by decide +kernel,by decide +kernel,by decide +kernel⟩,by decide +kernel,by decide +kernel,by decide +kernel,by decide +kernel⟩
theorem aw6_ok:LOK aw6l.1:=⟨⟨by decide +kernel,by decide +kernel,by decide +kernel,by decide +kernel,by decide +kernel,by decide +kernel⟩,by decide +kernel,by decide +kernel,by decide +kernel,by decide +kernel⟩
end Go.Proofs.YtjkecckndfcbjaaGreatDoor
namespace Go.Proofs.YtjkecckndfcbjaaGreatDoor
open Go.RowKit Go.Sort Go.Lib
def hasT (k:Int):List UInt8:=if k=1∨k=5 then [105,116,99] else if k=2 then [105,116] else if k=3 then [105,116,98,99] else if k=4∨k=8 then [105,98] else if k=6 then [105,98,99] else if k=7 then [105,116,98,97] else if k=9 then [105,99] else if k=10 then [112] else []
theorem hasT_len (k:Int):(hasT k).length≤4:=by unfold hasT;(repeat' split) <;> simp
theorem qtc {a b:ByteArray} (h:a=b):Ending.returned (.string a)=.returned (.string b):=by rw [h]
set_option maxRecDepth 100000 in
set_option maxHeartbeats 2000000 in
theorem qvf (k:Int) (w:World) :
 Calls Tryz.prog 169 #[.int .i64 k] w fun e w'=>e=.returned (.string ⟨(hasT k).toArray⟩)∧Below w.heap.size w w':=by
 by_cases h0:k < 1
 ·have HT:Hid (hasT k=[]):=by show _=_;unfold hasT;(repeat' rw [if_neg (by omega)])
  go_enter Tryz.func169,Tryz.ntmps169
  go_wp2
  go_ret
  exact ⟨qtc (by rw [HT.out]),bel1 w _⟩
 ·by_cases h1:10 < k
  ·have HT:Hid (hasT k=[]):=by show _=_;unfold hasT;(repeat' rw [if_neg (by omega)])
   have h0':decide (k < 1)=false:=by simp;omega
   clear h0
   go_enter Tryz.func169,Tryz.ntmps169
   go_wp2
   go_ret
   exact ⟨qtc (by rw [HT.out]),bel1 w _⟩
  ·have:k=1∨k=2∨k=3∨k=4∨k=5∨k=6∨k=7∨k=8∨k=9∨k=10:=by omega
   rcases this with rfl | rfl | rfl | rfl | rfl | rfl | rfl | rfl | rfl | rfl
   all_goals
    go_enter Tryz.func169,Tryz.ntmps169
    go_wp2
    go_ret
    exact ⟨qtc rfl,bel1 w _⟩
def hasB (k:Int) (c:Nat):Bool:=(hasT k).any fun x=>decide (x.toNat=c)
set_option maxRecDepth 100000 in
set_option maxHeartbeats 1000000 in
theorem qjf (k:Int) (c:Nat) (w:World) :
 Calls Tryz.prog 171 #[.int .i64 k,.int .u8 c] w fun e w'=>e=.returned (.bool (hasB k c))∧Below w.heap.size w w':=by
 have HH:=hI (qvf k w)
 have hl:=hasT_len k
 obtain ⟨s,hs⟩:∃ s:ByteArray,s=⟨(hasT k).toArray⟩:=⟨_,rfl⟩
 rw [←hs] at HH
 have HD:Hid (s.data.toList=hasT k):=by
  have e0:s.data.toList=hasT k:=by rw [hs]
  exact e0
 have hsz:s.size≤4:=by
  have e1:s.size=s.data.toList.length:=by simp
  rw [e1,HD.out];exact hl
 clear hs hl
 go_enter Tryz.func171,Tryz.ntmps171
 go_wp2_with fail
 refine HH.out.mono ?_
 rintro e w1 ⟨rfl,hb1⟩
 have HB1:=hI hb1
 clear hb1
 go_wp2
 go_loop [6] (fun i=>∃ n:Nat,i=.int .i64 n∧n≤s.size∧Hid (hasB k c=(s.data.toList.drop n).any fun x=>decide (x.toNat=c))) (fun i=>s.size - (intOf i).toNat)
 case atStart=>exact ⟨0,rfl,Nat.zero_le _,by show _=_;rw [List.drop_zero,HD.out];rfl⟩
 case round =>
  obtain ⟨n,rfl,hn,hany⟩:=hrel
  by_cases hlt:n < s.size
  ·have nz:(n:Int) < (s.size:Int):=by omega
   have hdr:=qjk s n hlt
   have gi:=fun (x:Nat) (hx:s[n].toNat=x)=>qmd s n hlt x hx (n:Int) rfl
   have HDR:=hI hdr
   obtain ⟨x,hx⟩:∃ x,s[n].toNat=x:=⟨_,rfl⟩
   have hix:=gi x hx
   have HX:=hI hx
   clear gi hdr hx
   have hxc:=beqI (x:Int) (c:Int)
   by_cases hc:x=c
   ·rw [show decide ((x:Int)=(c:Int))=true by simp [hc]] at hxc
    have HE:Hid (hasB k c=true):=by show _=_;rw [hany.out,HDR.out];simp [HX.out,hc]
    clear hc
    go_wp2
    go_ret
    exact ⟨qah HE.out.symm,HB1.out⟩
   ·rw [show decide ((x:Int)=(c:Int))=false by simp;omega] at hxc
    have HE:Hid (hasB k c=(s.data.toList.drop (n + 1)).any fun x=>decide (x.toNat=c)):=by show _=_;rw [hany.out,HDR.out];simp [HX.out,hc]
    clear hc
    go_wp2
    go_round
    case rel=>exact ⟨n + 1,by go_num,by omega,HE⟩
    case measure=>simp [intOf];omega
  ·have hlt':decide ((n:Int) < (s.size:Int))=false:=by simp;omega
   have HE:Hid (hasB k c=false):=by show _=_;rw [hany.out,List.drop_of_length_le (by simp;omega)];rfl
   go_wp2
   go_ret
   exact ⟨qah HE.out.symm,HB1.out⟩
def inB (f:Bool) (n lo hi:Int):Bool:=if f then decide (lo≤n∧n≤hi) else decide (n=0)
theorem in_any (f:Bool) (n lo hi:Int) (w:World) :
 Calls Tryz.prog 172 #[.bool f,.int .i64 n,.int .i64 lo,.int .i64 hi] w fun e w'=>e=.returned (.bool (inB f n lo hi))∧w=w':=by
 have hz:=beqI n 0
 cases f
 ·have HI:Hid (inB false n lo hi=decide (n=0)):=rfl
  go_enter Tryz.func172,Tryz.ntmps172
  go_wp2
  go_ret
  exact ⟨qah (by rw [HI.out]),rfl⟩
 ·have HI:Hid (inB true n lo hi=decide (lo≤n∧n≤hi)):=rfl
  go_enter Tryz.func172,Tryz.ntmps172
  go_wp2
  all_goals
   go_ret
   exact ⟨qah (by rw [HI.out];simp <;> omega),rfl⟩
def qjg (id:Int):Int:=if okId id then id % 10 else 0
def seqN (id:Int):Int:=if okId id then id / 10 else 0
set_option maxHeartbeats 400000 in
theorem qnc (id:Int) (w:World) :
 Calls Tryz.prog 170 #[.int .i64 id] w fun e w'=>e=.returned (.tuple #[.int .i64 (qjg id),.int .i64 (seqN id)])∧w=w':=by
 go_enter Tryz.func170,Tryz.ntmps170
 go_wp2
 all_goals
  go_ret2
  exact ⟨ret_int2 (by unfold qjg okId;split <;> simp_all <;> omega) (by unfold seqN okId;split <;> simp_all <;> omega),rfl⟩
theorem qqu (id:Int):decide (0 < qjg id)=okId id:=by
 unfold qjg
 cases h:okId id
 ·simp
 ·unfold okId at h
  simp at h ⊢
  omega
end Go.Proofs.YtjkecckndfcbjaaGreatDoor
namespace Go.Proofs.YtjkecckndfcbjaaGreatDoor
open Go.RowKit Go.Sort Go.Lib
def proX (lo hi dn:Int) (ats:Array (Int×Int)) (mks:Array Int):Bool:=decide (0≤lo∧lo≤1000000∧0≤hi∧hi≤1000000∧lo≤hi∧0≤dn∧dn≤1000000∧mks.size≤9) && (attL hi lo ats.toList && decide (ats.size≤200)) && mksB mks
def MkR (d:Array Int) (iv:Value):Prop:=∃ k:Nat,iv=.int .i64 (k:Int)∧k≤d.size∧∀ j,j < k→qde d[j]! = true
def AtR (lo hi:Int) (ats:Array (Int×Int)) (W0:World) (iv:Value) (wr:World):Prop:=∃ (k:Nat) (last:Int),iv=.int .i64 (k:Int)∧k≤ats.size∧(k=0→last=lo)∧(∀ j,j + 1=k→last=ats[j]!.1)∧lo≤last∧attL hi lo ats.toList=attL hi last (ats.toList.drop k)∧Below W0.heap.size W0 wr
set_option maxRecDepth 100000 in
set_option maxHeartbeats 8000000 in
theorem rPro_all (k0 fr id t bal abal ph q:Int) (pay:ByteArray) (lo hi:Int) (aA:Option Addr) (aC:Nat) (ats:Array (Int×Int)) (mA:Option Addr) (mC:Nat) (mks:Array Int) (dn:Int) (w:World) (ra:RdK encA 2 w.heap.size w aA ats) (rm:RdI w.heap.size w mA mks) (sa:ats.size≤1000000) (sm:mks.size≤1000000) :
 Calls Tryz.prog 173 #[.agg #[.int .i64 k0,.int .i64 fr,.int .i64 id,.int .i64 t,.int .i64 bal,.int .i64 abal,.int .i64 ph,.int .i64 q,.string pay,.int .i64 lo,.int .i64 hi,.slice aA ats.size aC,.slice mA mks.size mC,.int .i64 dn]] w fun e w'=>e=.returned (.bool (proX lo hi dn ats mks))∧Below w.heap.size w w':=by
 by_cases hb:0≤lo∧lo≤hi∧hi≤1000000∧0≤dn∧dn≤1000000∧mks.size≤9∧ats.size≤200
 ·have HP:Hid (proX lo hi dn ats mks=(attL hi lo ats.toList && mksB mks)):=by
   show _=_
   unfold proX
   rw [decide_eq_true_iff.2 (show 0≤lo∧lo≤1000000∧0≤hi∧hi≤1000000∧lo≤hi∧0≤dn∧dn≤1000000∧mks.size≤9 by omega),decide_eq_true_iff.2 hb.2.2.2.2.2.2]
   simp
  obtain ⟨b1,b2,b3,b4,b5,b6,b7⟩:=hb
  have d1:decide (hi < lo)=false:=by simp;omega
  have d2:(mks.size:Int)≤9:=by omega
  have d3:(ats.size:Int)≤200:=by omega
  have RA:=hI ra
  have RM:=hI rm
  clear ra rm
  go_enter Tryz.func173,Tryz.ntmps173
  go_wp2
  go_loop [3] (fun i=>MkR mks i) (fun i=>mks.size - (intOf i).toNat)
  case atStart=>exact ⟨0,rfl,Nat.zero_le _,fun j hj=>absurd hj (by omega)⟩
  case round =>
   obtain ⟨k,rfl,hk,hall⟩:=hrel
   have HALL:=hI hall
   clear hall
   by_cases hlt:k < mks.size
   ·have kz:(k:Int) < (mks.size:Int):=by omega
    obtain ⟨b,off,rfl,hbl,hc⟩:=RM.out.at_ hlt
    obtain ⟨x,hx⟩:∃ x,mks[k]! = x:=⟨_,rfl⟩
    rw [hx] at hc
    have HX:=hI hx
    clear hx
    by_cases hxm:0≤x∧x≤1000000
    ·have g1:decide (x < 0)=false:=by simp;omega
     have g2:decide (1000000 < x)=false:=by simp;omega
     have HM:Hid (qde x=true):=by show _=_;unfold qde;simpa using hxm
     clear hxm
     go_wp2
     go_round
     case rel =>
      refine ⟨k + 1,by go_num,by omega,fun j hj=>?_⟩
      rcases Nat.lt_or_ge j k with h | h
      ·exact HALL.out j h
      ·obtain rfl:j=k:=by omega
       rw [HX.out];exact HM.out
     case measure=>simp [intOf];omega
    ·have HF:Hid (mksB mks=false):=by
      show _=_
      unfold mksB
      rw [decide_eq_false_iff_not]
      intro hh
      have:=hh k hlt
      rw [HX.out] at this
      unfold qde at this
      simp at this
      exact hxm this
     by_cases g1:x < 0
     ·clear hxm
      go_wp2
      go_ret
      exact ⟨qah (by rw [HP.out,HF.out];simp),bel1 w _⟩
     ·have g1':decide (x < 0)=false:=by simp;omega
      have g2:1000000 < x:=by omega
      clear hxm g1
      go_wp2
      go_ret
      exact ⟨qah (by rw [HP.out,HF.out];simp),bel1 w _⟩
   ·have hlt':decide ((k:Int) < (mks.size:Int))=false:=by simp;omega
    have HMK:Hid (mksB mks=true):=by show _=_;unfold mksB;rw [decide_eq_true_iff];exact fun j hj=>HALL.out j (by omega)
    go_wp2
    go_loopw [4] (fun i wr=>AtR lo hi ats (w.alloc (.cells #[.int .i64 k0,.int .i64 fr,.int .i64 id,.int .i64 t,.int .i64 bal,.int .i64 abal,.int .i64 ph,.int .i64 q,.string pay,.int .i64 lo,.int .i64 hi,.slice aA ats.size aC,.slice mA mks.size mC,.int .i64 dn] 247)) i wr) (fun i _=>ats.size - (intOf i).toNat)
    case atStart=>exact ⟨0,lo,rfl,Nat.zero_le _,(fun _=>rfl),(fun j hj=>by omega),by omega,rfl,Below.refl _ _⟩
    case round =>
     obtain ⟨n,last,rfl,hn,hl0,hl1,hll,hat,hB⟩:=hrel
     have HAT:=hI hat
     have HB:=hI hB
     have HL0:=hI hl0
     have HL1:=hI hl1
     have hgl:w.heap.size < wr.heap.size:=by have:=hB.size;simp at this;omega
     have q9:∀ p:ExtW wr,p.to.cell? ⟨w.heap.size,9,none⟩=some (.int .i64 lo):=fun p=>(p.h.cell (p:=⟨w.heap.size,9,none⟩) hgl).trans ((HB.out.cell (p:=⟨w.heap.size,9,none⟩) (by simp)).trans (by simp))
     have q10:∀ p:ExtW wr,p.to.cell? ⟨w.heap.size,10,none⟩=some (.int .i64 hi):=fun p=>(p.h.cell (p:=⟨w.heap.size,10,none⟩) hgl).trans ((HB.out.cell (p:=⟨w.heap.size,10,none⟩) (by simp)).trans (by simp))
     have q11:∀ p:ExtW wr,p.to.cell? ⟨w.heap.size,11,none⟩=some (.slice aA ats.size aC):=fun p=>(p.h.cell (p:=⟨w.heap.size,11,none⟩) hgl).trans ((HB.out.cell (p:=⟨w.heap.size,11,none⟩) (by simp)).trans (by simp))
     have r11:wr.cell? ⟨w.heap.size,11,none⟩=some (.slice aA ats.size aC):=(HB.out.cell (p:=⟨w.heap.size,11,none⟩) (by simp)).trans (by simp)
     have hBw:Below w.heap.size w wr:=qac (bel1 w _) HB.out
     have HBw:=hI hBw
     clear hat hB hl0 hl1 hBw
     by_cases hlt2:n < ats.size
     ·have nz:(n:Int) < (ats.size:Int):=by omega
      obtain ⟨b,off,rfl,hbl,f⟩:=(RA.out.below HBw.out).at_ hlt2
      have e0:=f 0 (by omega)
      have e1:=f 1 (by omega)
      have HD:=hI (qwz ats n hlt2)
      have hbw:b < wr.heap.size:=Nat.lt_of_lt_of_le hbl HBw.out.size
      obtain ⟨x,hx⟩:∃ x,ats[n]! = x:=⟨_,rfl⟩
      rw [hx] at e0 e1 HD
      have HX:=hI hx
      simp only [Nat.add_zero,encA,List.getElem!_cons_zero,List.getElem!_cons_succ] at e0 e1
      have q0:∀ p:ExtW wr,p.to.cell? ⟨b,off + n * 2,none⟩=some (.int .i64 x.1):=fun p=>(p.h.cell (p:=⟨b,off + n * 2,none⟩) hbw).trans e0
      have HSP:=hI (fun W=>qnc x.2 W)
      have hself:=qqu x.2
      clear f hx e0
      cases hid:okId x.2
      ·have z0:(qjg x.2 == 0)=true:=by unfold qjg;rw [hid];rfl
       have HF:Hid (attL hi lo ats.toList=false):=by show _=_;rw [HAT.out,HD.out];simp [attL,hid]
       clear hid hself
       generalize qjg x.2=sf at z0 HSP
       go_wp2_with (go_at_call 170;refine (HSP.out _).mono ?_;rintro e w' ⟨rfl,rfl⟩)
       refine qaj (by kernel_rfl) (by kernel_rfl) ?_
       repeat (first | go_big_quiet_step (fail) | quiet_step (fail))
       refine wpQuiet_nil ?_
       intro w' hw'
       obtain ⟨⟨W,hbW⟩,hw''⟩:=hw'
       have hw3:w'=W:=hw''
       subst hw3
       have HBW:=hI (qac HB.out hbW)
       have HBV:=hI (qac HBw.out hbW)
       clear hbW hw''
       go_wp2
       go_ret
       exact ⟨qah (by rw [HP.out,HF.out];simp),HBV.out⟩
      ·have z0:(qjg x.2 == 0)=false:=by rw [hid] at hself;simp at hself ⊢;omega
       clear hself
       by_cases g1:x.1≤lo
       ·have HF:Hid (attL hi lo ats.toList=false):=by show _=_;rw [HAT.out,HD.out];simp [attL];intro h1 h2;omega
        have g1':decide (x.1≤lo)=true:=by simp;omega
        clear hid
        generalize qjg x.2=sf at z0 HSP
        go_wp2_with (go_at_call 170;refine (HSP.out _).mono ?_;rintro e w' ⟨rfl,rfl⟩)
        refine qaj (by kernel_rfl) (by kernel_rfl) ?_
        repeat (first | go_big_quiet_step (fail) | quiet_step (fail))
        refine wpQuiet_nil ?_
        intro w' hw'
        obtain ⟨⟨W,hbW⟩,hw''⟩:=hw'
        have hw3:w'=W:=hw''
        subst hw3
        have HBW:=hI (qac HB.out hbW)
        have HBV:=hI (qac HBw.out hbW)
        clear hbW hw''
        go_wp2
        go_ret
        exact ⟨qah (by rw [HP.out,HF.out];simp),HBV.out⟩
       ·have g1':decide (x.1≤lo)=false:=by simp;omega
        by_cases g2:hi < x.1
        ·have HF:Hid (attL hi lo ats.toList=false):=by show _=_;rw [HAT.out,HD.out];simp [attL];intro h1 h2;omega
         have g2':decide (hi < x.1)=true:=by simp;omega
         clear hid g1
         generalize qjg x.2=sf at z0 HSP
         go_wp2_with (go_at_call 170;refine (HSP.out _).mono ?_;rintro e w' ⟨rfl,rfl⟩)
         refine qaj (by kernel_rfl) (by kernel_rfl) ?_
         repeat (first | go_big_quiet_step (fail) | quiet_step (fail))
         refine wpQuiet_nil ?_
         intro w' hw'
         obtain ⟨⟨W,hbW⟩,hw''⟩:=hw'
         have hw3:w'=W:=hw''
         subst hw3
         have HBW:=hI (qac HB.out hbW)
         have HBV:=hI (qac HBw.out hbW)
         clear hbW hw''
         go_wp2
         go_ret
         exact ⟨qah (by rw [HP.out,HF.out];simp),HBV.out⟩
        ·have g2':decide (hi < x.1)=false:=by simp;omega
         by_cases g0:0 < n
         ·obtain ⟨n',hn'⟩:∃ n',n' + 1=n:=⟨n - 1,by omega⟩
          have g0':decide ((0:Int) < (n:Int))=true:=by simp;omega
          have hsub:(n:Int) - 1=(n':Int):=by omega
          have nz':(n':Int) < (ats.size:Int):=by omega
          obtain ⟨b',off',e',hbl',f'⟩:=(RA.out.below HBw.out).at_ (i:=n') (by omega)
          injection e' with e'
          injection e' with eb eo
          subst eb eo
          have u0:=f' 0 (by omega)
          have hlast:=HL1.out n' hn'
          simp only [Nat.add_zero,encA,List.getElem!_cons_zero] at u0
          rw [←hlast] at u0
          have q2:∀ p:ExtW wr,p.to.cell? ⟨b,off + n' * 2,none⟩=some (.int .i64 last):=fun p=>(p.h.cell (p:=⟨b,off + n' * 2,none⟩) hbw).trans u0
          clear f' u0 hlast
          by_cases g3:x.1≤last
          ·have HF:Hid (attL hi lo ats.toList=false):=by show _=_;rw [HAT.out,HD.out];simp [attL];intro h1 h2;omega
           have g3':decide (x.1≤last)=true:=by simp;omega
           clear hid g1 g2 hn'
           generalize qjg x.2=sf at z0 HSP
           go_wp2_with (go_at_call 170;refine (HSP.out _).mono ?_;rintro e w' ⟨rfl,rfl⟩)
           refine qaj (by kernel_rfl) (by kernel_rfl) ?_
           repeat (first | go_big_quiet_step (fail) | quiet_step (fail))
           refine wpQuiet_nil ?_
           intro w' hw'
           obtain ⟨⟨W,hbW⟩,hw''⟩:=hw'
           have hw3:w'=W:=hw''
           subst hw3
           have HBW:=hI (qac HB.out hbW)
           have HBV:=hI (qac HBw.out hbW)
           clear hbW hw''
           go_wp2
           go_ret
           exact ⟨qah (by rw [HP.out,HF.out];simp),HBV.out⟩
          ·have HN:Hid (attL hi lo ats.toList=attL hi x.1 (ats.toList.drop (n + 1))):=by show _=_;rw [HAT.out,HD.out];simp [attL,hid];intro h;omega
           have g3':decide (x.1≤last)=false:=by simp;omega
           clear hid hn'
           generalize qjg x.2=sf at z0 HSP
           go_wp2_with (go_at_call 170;refine (HSP.out _).mono ?_;rintro e w' ⟨rfl,rfl⟩)
           refine qaj (by kernel_rfl) (by kernel_rfl) ?_
           repeat (first | go_big_quiet_step (fail) | quiet_step (fail))
           refine wpQuiet_nil ?_
           intro w' hw'
           obtain ⟨⟨W,hbW⟩,hw''⟩:=hw'
           have hw3:w'=W:=hw''
           subst hw3
           have HBW:=hI (qac HB.out hbW)
           have HBV:=hI (qac HBw.out hbW)
           clear hbW hw''
           go_wp2
           go_roundw
           case rel=>exact ⟨n + 1,x.1,by go_num,by omega,(fun h=>by omega),(fun j hj=>by have e:j=n:=(by omega);rw [e,HX.out]),by omega,HN.out,HBW.out⟩
           case measure=>simp [intOf];omega
         ·have g0':decide ((0:Int) < (n:Int))=false:=by simp;omega
          have hlast:=HL0.out (by omega)
          have HN:Hid (attL hi lo ats.toList=attL hi x.1 (ats.toList.drop (n + 1))):=by show _=_;rw [HAT.out,HD.out];simp [attL,hid];intro h;omega
          clear hid hlast
          generalize qjg x.2=sf at z0 HSP
          go_wp2_with (go_at_call 170;refine (HSP.out _).mono ?_;rintro e w' ⟨rfl,rfl⟩)
          refine qaj (by kernel_rfl) (by kernel_rfl) ?_
          repeat (first | go_big_quiet_step (fail) | quiet_step (fail))
          refine wpQuiet_nil ?_
          intro w' hw'
          obtain ⟨⟨W,hbW⟩,hw''⟩:=hw'
          have hw3:w'=W:=hw''
          subst hw3
          have HBW:=hI (qac HB.out hbW)
          have HBV:=hI (qac HBw.out hbW)
          clear hbW hw''
          go_wp2
          go_roundw
          case rel=>exact ⟨n + 1,x.1,by go_num,by omega,(fun h=>by omega),(fun j hj=>by have e:j=n:=(by omega);rw [e,HX.out]),by omega,HN.out,HBW.out⟩
          case measure=>simp [intOf];omega
     ·have hlt2':decide ((n:Int) < (ats.size:Int))=false:=by simp;omega
      have HE:Hid (attL hi lo ats.toList=true):=by
       show _=_
       rw [HAT.out,List.drop_of_length_le (by simp;omega)];rfl
      go_wp2
      go_ret
      exact ⟨qah (by rw [HP.out,HE.out,HMK.out];rfl),HBw.out⟩
 ·have HP:Hid (proX lo hi dn ats mks=false):=by
   show _=_
   unfold proX
   by_cases h1:0≤lo∧lo≤1000000∧0≤hi∧hi≤1000000∧lo≤hi∧0≤dn∧dn≤1000000∧mks.size≤9
   ·have:¬ ats.size≤200:=by omega
    simp [this]
   ·rw [decide_eq_false_iff_not.2 h1];simp
  have HBB:=hI hb
  clear hb ra rm
  go_enter Tryz.func173,Tryz.ntmps173
  go_wp2
  all_goals first
   | (go_ret;exact ⟨qah HP.out.symm,bel1 w _⟩)
   | (exfalso;have:=HBB.out;omega)
end Go.Proofs.YtjkecckndfcbjaaGreatDoor
namespace Go.Proofs.YtjkecckndfcbjaaGreatDoor
open Go.RowKit Nb
def c4 (m:PM):Bool:=decide (1≤m.fr) && decide (m.fr≤9) && (okId m.id == hasB m.k 105) && (okId m.id || decide (m.id=0))
def c5 (m:PM):Bool:=inB (hasB m.k 116) m.t 1 1000000 && inB (hasB m.k 98) m.bal 1 1000000 && inB (hasB m.k 99) m.q 1 511 && decide (m.pay.size≤300) && (hasB m.k 99 || decide (m.pay=⟨#[]⟩))
def c7 (m:PM):Bool:=decide (0≤m.abal) && decide (m.abal < m.bal) && decide (1≤m.ph) && decide (m.ph≤4) && (decide (0 < m.abal) || decide (3≤m.ph))
def c8 (m:PM):Bool:=decide (m.abal=0) && decide (m.ph=0)
def c11 (m:PM):Bool:=decide (m.lo=0) && decide (m.hi=0) && decide (m.dn=0) && decide (m.ats.size=0) && decide (m.mks.size=0)
def chkR (m:PM):Int:=if m.k < 1∨10 < m.k then 30 else if c4 m && c5 m && (if hasB m.k 97 then c7 m else c8 m) && (if hasB m.k 112 then proB m else c11 m) then 0 else 2
theorem size0 {α:Type} (d:Array α):d.size=0↔#[]=d:=by
 constructor
 ·intro h;exact (Array.eq_empty_of_size_eq_zero h).symm
 ·rintro rfl;rfl
set_option maxHeartbeats 4000000 in
theorem chkR_eq (m:PM):chkR m=chkM m:=by
 unfold chkR chkM
 by_cases hk:m.k < 1∨10 < m.k
 ·rw [if_pos hk,if_pos hk]
 rw [if_neg hk,if_neg hk]
 have key:(c4 m && c5 m && (if hasB m.k 97 then c7 m else c8 m) && (if hasB m.k 112 then proB m else c11 m))=(decide (1≤m.fr∧m.fr≤9) && qgk (qbv m) m && mayB m):=by
  have hks:m.k=1∨m.k=2∨m.k=3∨m.k=4∨m.k=5∨m.k=6∨m.k=7∨m.k=8∨m.k=9∨m.k=10:=by omega
  unfold c4 c5 c7 c8 c11 qgk qbv mayB carB tolB
  generalize hpb:proB m=pb
  have hi0:okId m.id=true→m.id≠0:=by intro h;unfold okId at h;rw [decide_eq_true_eq] at h;omega
  generalize okId m.id=oi at hi0 ⊢
  have hpe:m.pay=⟨#[]⟩→m.pay.size≤300:=by intro h;rw [h];decide
  have ha:=size0 m.ats
  have hm:=size0 m.mks
  rcases hks with e | e | e | e | e | e | e | e | e | e
  all_goals
   rw [Bool.eq_iff_iff]
   simp only [e,hasB,hasT,inB,qbn,ha,hm]
   simp
   grind
 rw [key]
end Go.Proofs.YtjkecckndfcbjaaGreatDoor
