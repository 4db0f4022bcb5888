/- Texts that the law leans on. -/
import Derived.Test.YtjkecckndfcbjaaGreatDoorPLftA
import Derived.Test.YtjkecckndfcbjaaGreatDoorPDocK
import Derived.Test.YtjkecckndfcbjaaGreatDoorPFrmB
import Derived.Test.YtjkecckndfcbjaaGreatDoorPWalA
import Derived.Deep.RegionHeld3
import Derived.Deep.RegionWith
import Derived.Test.YtjkecckndfcbjaaGreatDoorPTelB
import Derived.Test.YtjkecckndfcbjaaGreatDoorPErrA
namespace Go.Proofs.YtjkecckndfcbjaaGreatDoor
open Go.RowKit Go.Sort Crc Nb
set_option maxRecDepth 100000
structure RLg where
 d:RD
 file:Nat
 ep:Nat
 sq:Nat
 shut:Bool
def qsv (l:RLg):List Value:=[.string l.d.a,.string l.d.b,.string l.d.c,.string l.d.e,.bool l.d.h,.bool l.d.k,.int .i64 (l.d.room:Int),.int .i64 (l.d.ops:Int),.int .i64 (l.d.arm:Int),.bool l.d.dead,.int .i64 (l.file:Int),.int .i64 (l.ep:Int),.int .i64 (l.sq:Int),.bool l.shut]
def rlV (l:RLg):Value:=.agg (qsv l).toArray
def rlOf (l:LG):RLg:=⟨rdOf l.d,l.file,l.ep,l.sq,l.shut⟩
def rShutQ (l:RLg) (e:Nat):RLg×Nat:=(⟨l.d,l.file,l.ep,l.sq,l.shut || e == 20⟩,e)
def qep (x:RLg×Nat) (w:World) (e:Ending) (w':World):Prop:=e=.returned (.tuple #[rlV x.1,.int .i64 (x.2:Int)])∧Below w.heap.size w w'
theorem rShut_any (l:RLg) (e:Nat) (w:World) :
 Calls Tryz.prog 74 #[rlV l,.int .i64 (e:Int)] w fun x w'=>x=.returned (.tuple #[rlV (rShutQ l e).1,.int .i64 (e:Int)])∧∃ o1 o2,w'=(w.alloc o1).alloc o2:=by
 obtain ⟨⟨a,b,c,y,h,k2,room,ops,arm,dead⟩,file,ep,sq,shut⟩:=l
 unfold rShutQ rlV qsv
 dsimp only
 cases shut
 ·by_cases h20:e=20
  ·subst h20
   go_enter Tryz.func74,Tryz.ntmps74
   go_wp2
   refine bodyPost_ret (v:=.tuple #[.agg #[.string a,.string b,.string c,.string y,.bool h,.bool k2,.int .i64 (room:Int),.int .i64 (ops:Int),.int .i64 (arm:Int),.bool dead,.int .i64 (file:Int),.int .i64 (ep:Int),.int .i64 (sq:Int),.bool true],.int .i64 20]) (by simp [results,Tryz.results74,go_sem]) rfl ⟨rfl,_,_,rfl⟩
  ·have h1:((e:Int) == 20)=false:=by simp;omega
   have h2:(e == 20)=false:=by simpa using h20
   rw [h2]
   go_enter Tryz.func74,Tryz.ntmps74
   go_wp2
   refine bodyPost_ret (v:=.tuple #[.agg #[.string a,.string b,.string c,.string y,.bool h,.bool k2,.int .i64 (room:Int),.int .i64 (ops:Int),.int .i64 (arm:Int),.bool dead,.int .i64 (file:Int),.int .i64 (ep:Int),.int .i64 (sq:Int),.bool false],.int .i64 (e:Int)]) (by simp [results,Tryz.results74,go_sem]) rfl ⟨rfl,_,_,rfl⟩
 ·go_enter Tryz.func74,Tryz.ntmps74
  go_wp2
  refine bodyPost_ret (v:=.tuple #[.agg #[.string a,.string b,.string c,.string y,.bool h,.bool k2,.int .i64 (room:Int),.int .i64 (ops:Int),.int .i64 (arm:Int),.bool dead,.int .i64 (file:Int),.int .i64 (ep:Int),.int .i64 (sq:Int),.bool true],.int .i64 (e:Int)]) (by simp [results,Tryz.results74,go_sem]) rfl ⟨rfl,_,_,rfl⟩
def RFrP (ep:Nat) (st:ByteArray) (l:List EV) (w:World) (e:Ending) (w':World):Prop :=
 e=.returned (.tuple #[.string (if ptC ep st l=0 then ptA ep st l else ⟨#[]⟩),.int .i64 ((if ptC ep st l=0 then 0 else 2:Nat):Int)])∧Below w.heap.size w w'
theorem frW_of (b:List UInt8):frW ⟨b.toArray⟩=⟨(qak b).toArray⟩:=rfl
set_option maxHeartbeats 8000000 in
theorem qsw (ep:Nat) (st:ByteArray) (A:Option Addr) (c:Nat) (d:Array EV) (w:World)
 (hr:RdK qbx 2 w.heap.size w A d) (hd:d.size≤200000) (hev:∀ i,i < d.size→d[i]!.2.size≤1000000) :
 Calls Tryz.prog 72 #[.int .i64 (ep:Int),.string st,.slice A d.size c] w (RFrP ep st d.toList w):=by
 have HBB:=hI (fun (W:World) (n:Nat) (e:EV) (hz:e.2.size≤1000000) (h0:recC (evR ep n e)≠0)=>qey (evR ep n e) W hz h0)
 have HOO:=hI (fun (W:World) (n:Nat) (e:EV) (hz:e.2.size≤1000000) (h0:recC (evR ep n e)=0)=>qfr (evR ep n e) W hz h0)
 have HR:=hI hr
 have HEV:=hI hev
 have hpf:∀ (r:PR) (W:World),recC r=0→Calls Tryz.prog 71 #[.string ⟨(recB r).toArray⟩] W fun e w'=>e=.returned (.tuple #[.string ⟨(qak (recB r)).toArray⟩,.int .i64 0])∧Below W.heap.size W w':=fun r W h=>by
  have:=qkt ⟨(recB r).toArray⟩ W (by rw [qaz];have:=qgn h;omega)
  rw [frW_of] at this
  exact this
 have HPF:=hI hpf
 clear hr hev hpf
 by_cases h0:recC (snR ep st)=0
 rotate_left
 ·have hb:=qmk (l:=d.toList) h0
  have HC:=hI (qey (snR ep st) w (show (⟨#[]⟩:ByteArray).size≤1000000 by decide) h0)
  unfold RFrP
  rw [if_neg hb,if_neg hb]
  unfold recV snR at HC
  dsimp only at HC
  clear HBB HOO hb h0
  go_enter Tryz.func72,Tryz.ntmps72
  go_wp2_with (go_at_call 81;refine HC.out.mono ?_;rintro e w3 ⟨rfl,hb3⟩;have HB3:=hI hb3;clear hb3)
  go_ret2
  exact ⟨rfl,HB3.out⟩
 have HP0:=hI (quk ep st h0)
 have HC:=hI (qfr (snR ep st) w (show (⟨#[]⟩:ByteArray).size≤1000000 by decide) h0)
 have HF:=hI (fun W=>HPF.out (snR ep st) W h0)
 have HZ:Hid ((⟨(qak (recB (snR ep st))).toArray⟩:ByteArray)=⟨(ptF ep st (d.toList.take 0)).toArray⟩):=by show _=_;rw [List.take_zero,qwb]
 rw [HZ.out] at HF
 generalize (⟨(recB (snR ep st)).toArray⟩:ByteArray)=rb at HF HC
 unfold recV snR at HC
 dsimp only at HC
 clear h0 HZ
 go_enter Tryz.func72,Tryz.ntmps72
 go_wp2_with (first | (go_at_call 81;refine HC.out.mono ?_;rintro e w3 ⟨rfl,hb3⟩;have HB3:=hI hb3;clear hb3) | (go_at_call 71;refine (HF.out _).mono ?_;rintro e w4 ⟨rfl,hb4⟩;have HB4:=hI (qad HB3.out hb4);clear hb4))
 clear HC HF HB3
 go_loopw [12,10] (fun iv ov wr=>∃ k:Nat,iv=.int .i64 (k:Int)∧ov=.string ⟨(ptF ep st (d.toList.take k)).toArray⟩∧k≤d.size∧Hid (ptC ep st (d.toList.take k)=0)∧Hid (Below w.heap.size w wr)) (fun i _ _=>d.size - (intOf i).toNat)
 case atStart=>exact ⟨0,rfl,rfl,Nat.zero_le _,HP0,HB4⟩
 case round =>
  obtain ⟨k,rfl,rfl,hk,HPK,HBK⟩:=hrel
  by_cases hlt:k < d.size
  ·have kz:(k:Int) < (d.size:Int):=by omega
   obtain ⟨blk,off,rfl,hblk,f⟩:=(HR.out.below HBK.out).at_ (i:=k) hlt
   have f0:=f 0 (by omega)
   have f1:=f 1 (by omega)
   clear f
   have hez:=HEV.out k hlt
   generalize hxe:d[k]! = x at f0 f1 hez
   obtain ⟨kd,dt⟩:=x
   simp only [Nat.add_zero,qbx,List.getElem!_cons_zero,List.getElem!_cons_succ] at f0 f1
   have hkl:k < d.toList.length:=by simpa using hlt
   have HD:Hid (d.toList[k]=(kd,dt)):=by show _=_;rw [←hxe,getElem!_pos d k hlt];rfl
   have HZK:=hI (qju HPK.out)
   have hkt:(d.toList.take k).length≤200000:=by rw [List.length_take];omega
   clear hxe
   by_cases hrc:recC (evR ep (k + 1) (kd,dt))=0
   ·have HPN:Hid (ptC ep st (d.toList.take (k + 1))=0):=qkv hkl HPK.out (by rw [HD.out];exact hrc)
    have HFN:Hid (ptF ep st (d.toList.take (k + 1))=ptF ep st (d.toList.take k) ++ qak (recB (evR ep (k + 1) (kd,dt)))):=by show _=_;rw [quj hkl,HD.out]
    have HC2:=hI (fun W=>HOO.out W (k + 1) (kd,dt) hez hrc)
    have HF2:=hI (fun W=>HPF.out (evR ep (k + 1) (kd,dt)) W hrc)
    have HFE:Hid ((⟨(ptF ep st (d.toList.take k)).toArray⟩:ByteArray) ++ ⟨(qak (recB (evR ep (k + 1) (kd,dt)))).toArray⟩=⟨(ptF ep st (d.toList.take (k + 1))).toArray⟩):=by show _=_;rw [qwa,←HFN.out]
    have hz1:(⟨(ptF ep st (d.toList.take k)).toArray⟩:ByteArray).size≤2000000000:=by rw [qaz];have:=HZK.out;omega
    have hz2:(⟨(qak (recB (evR ep (k + 1) (kd,dt)))).toArray⟩:ByteArray).size≤20000:=by
     rw [qaz]
     have:=qnz hrc
     omega
    generalize (⟨(ptF ep st (d.toList.take k)).toArray⟩:ByteArray)=y at HFE hz1 ⊢
    generalize (⟨(qak (recB (evR ep (k + 1) (kd,dt)))).toArray⟩:ByteArray)=fb at HFE hz2 HF2
    generalize (⟨(recB (evR ep (k + 1) (kd,dt))).toArray⟩:ByteArray)=rb2 at HC2 HF2
    unfold recV evR at HC2
    dsimp only at HC2
    clear hrc HPK HD HZK hkl HFN
    go_wp2_with (first | (go_at_call 81;refine (HC2.out _).mono ?_;rintro e w5 ⟨rfl,hb5⟩;have HB5:=hI (qad HBK.out hb5);clear hb5) | (go_at_call 71;refine (HF2.out _).mono ?_;rintro e w6 ⟨rfl,hb6⟩;have HB6:=hI (qad HB5.out hb6);clear hb6))
    go_roundw
    case rel=>exact ⟨k + 1,by go_num,by rw [HFE.out],by omega,HPN,HB6⟩
    case measure=>simp [intOf];omega
   ·have hb:=qmj (st:=st) (l:=d.toList) hkl (by rw [HD.out];exact hrc)
    have HC2:=hI (fun W=>HBB.out W (k + 1) (kd,dt) hez hrc)
    have HQ:Hid (∀ e w',e=.returned (.tuple #[.string ⟨#[]⟩,.int .i64 2])→Below w.heap.size w w'→RFrP ep st d.toList w e w'):=by
     intro e w' he hb'
     unfold RFrP
     rw [if_neg hb,if_neg hb]
     exact ⟨he,hb'⟩
    unfold recV evR at HC2
    dsimp only at HC2
    clear hrc HPK HD HZK hkl hb
    go_wp2_with (go_at_call 81;refine (HC2.out _).mono ?_;rintro e w5 ⟨rfl,hb5⟩;have HB5:=hI (qad HBK.out hb5);clear hb5)
    go_ret2
    exact HQ.out _ _ rfl HB5.out
  ·have kz:decide ((k:Int) < (d.size:Int))=false:=by simp;omega
   have htk:d.toList.take k=d.toList:=List.take_of_length_le (by simp;omega)
   rw [htk] at HPK ⊢
   have HQ:Hid (∀ e w',e=.returned (.tuple #[.string ⟨(ptF ep st d.toList).toArray⟩,.int .i64 0])→Below w.heap.size w w'→RFrP ep st d.toList w e w'):=by
    intro e w' he hb'
    unfold RFrP
    rw [if_pos HPK.out,if_pos HPK.out]
    exact ⟨he,hb'⟩
   clear htk
   go_wp2
   go_ret2
   exact HQ.out _ _ rfl HBK.out
end Go.Proofs.YtjkecckndfcbjaaGreatDoor
namespace Go.Proofs.YtjkecckndfcbjaaGreatDoor
open Go.RowKit Go.Sort Crc Nb
set_option maxRecDepth 100000
theorem RdK.next_L {α:Type} [Inhabited α] {enc:α→List Value} {k:Nat} {w w':World} {A:Option Addr} {d:Array α} (h:RdK enc k w.heap.size w A d) (hb:Below w.heap.size w w'):RdK enc k w'.heap.size w' A d:=(h.below hb).mono hb.size
section
variable {w W:World} {g k:Nat} {t:TypeId} {o:Obj} {v0 v1 v2 v3 v4 v5 v6 v7 v8 v9 v10 v11 v12 v13 x0 x1 x2 x3 x4 x5 x6 x7 x8 x9 x10 x11 x12 x13:Value}
theorem qsx (h:W.heap[g]?=some (.cells #[x0,x1,x2,x3,x4,x5,x6,x7,x8,x9,x10,x11,x12,x13] t (0,0))):((((((((((W.setCell ⟨g,0,none⟩ v0).setCell ⟨g,1,none⟩ v1).setCell ⟨g,2,none⟩ v2).setCell ⟨g,3,none⟩ v3).setCell ⟨g,4,none⟩ v4).setCell ⟨g,5,none⟩ v5).setCell ⟨g,6,none⟩ v6).setCell ⟨g,7,none⟩ v7).setCell ⟨g,8,none⟩ v8).setCell ⟨g,9,none⟩ v9).heap[g]?=some (.cells #[v0,v1,v2,v3,v4,v5,v6,v7,v8,v9,x10,x11,x12,x13] t (0,0)):=by
 have h1:=qae (qae (qae (qae (qae (qae (qae (qae (qae (qae h 0 v0) 1 v1) 2 v2) 3 v3) 4 v4) 5 v5) 6 v6) 7 v7) 8 v8) 9 v9
 rw [h1]
 simp only [List.setIfInBounds_toArray,List.set_cons_succ,List.set_cons_zero]
theorem qfc (h:W.heap[k]?=some o) (hk:k≠g):((((((((((W.setCell ⟨g,0,none⟩ v0).setCell ⟨g,1,none⟩ v1).setCell ⟨g,2,none⟩ v2).setCell ⟨g,3,none⟩ v3).setCell ⟨g,4,none⟩ v4).setCell ⟨g,5,none⟩ v5).setCell ⟨g,6,none⟩ v6).setCell ⟨g,7,none⟩ v7).setCell ⟨g,8,none⟩ v8).setCell ⟨g,9,none⟩ v9).heap[k]?=some o:=by
 repeat (refine (Below.heap_setCell _ _ _ _ ?_).trans ?_;exact hk)
 exact h
theorem set13 (h:W.heap[g]?=some (.cells #[x0,x1,x2,x3,x4,x5,x6,x7,x8,x9,x10,x11,x12,x13] t (0,0))):(((((((((((((W.setCell ⟨g,0,none⟩ v0).setCell ⟨g,1,none⟩ v1).setCell ⟨g,2,none⟩ v2).setCell ⟨g,3,none⟩ v3).setCell ⟨g,4,none⟩ v4).setCell ⟨g,5,none⟩ v5).setCell ⟨g,6,none⟩ v6).setCell ⟨g,7,none⟩ v7).setCell ⟨g,8,none⟩ v8).setCell ⟨g,9,none⟩ v9).setCell ⟨g,10,none⟩ v10).setCell ⟨g,11,none⟩ v11).setCell ⟨g,12,none⟩ v12).heap[g]?=some (.cells #[v0,v1,v2,v3,v4,v5,v6,v7,v8,v9,v10,v11,v12,x13] t (0,0)):=by
 have h1:=qae (qae (qae (qae (qae (qae (qae (qae (qae (qae (qae (qae (qae h 0 v0) 1 v1) 2 v2) 3 v3) 4 v4) 5 v5) 6 v6) 7 v7) 8 v8) 9 v9) 10 v10) 11 v11) 12 v12
 rw [h1]
 simp only [List.setIfInBounds_toArray,List.set_cons_succ,List.set_cons_zero]
theorem far13 (h:W.heap[k]?=some o) (hk:k≠g):(((((((((((((W.setCell ⟨g,0,none⟩ v0).setCell ⟨g,1,none⟩ v1).setCell ⟨g,2,none⟩ v2).setCell ⟨g,3,none⟩ v3).setCell ⟨g,4,none⟩ v4).setCell ⟨g,5,none⟩ v5).setCell ⟨g,6,none⟩ v6).setCell ⟨g,7,none⟩ v7).setCell ⟨g,8,none⟩ v8).setCell ⟨g,9,none⟩ v9).setCell ⟨g,10,none⟩ v10).setCell ⟨g,11,none⟩ v11).setCell ⟨g,12,none⟩ v12).heap[k]?=some o:=by
 repeat (refine (Below.heap_setCell _ _ _ _ ?_).trans ?_;exact hk)
 exact h
theorem qeu (h:Below w.heap.size w W) (hg:w.heap.size≤g):Below w.heap.size w ((((((((((W.setCell ⟨g,0,none⟩ v0).setCell ⟨g,1,none⟩ v1).setCell ⟨g,2,none⟩ v2).setCell ⟨g,3,none⟩ v3).setCell ⟨g,4,none⟩ v4).setCell ⟨g,5,none⟩ v5).setCell ⟨g,6,none⟩ v6).setCell ⟨g,7,none⟩ v7).setCell ⟨g,8,none⟩ v8).setCell ⟨g,9,none⟩ v9):=by
 repeat refine Below.setCell ?_ hg _
 exact h
theorem bel13_L (h:Below w.heap.size w W) (hg:w.heap.size≤g):Below w.heap.size w (((((((((((((W.setCell ⟨g,0,none⟩ v0).setCell ⟨g,1,none⟩ v1).setCell ⟨g,2,none⟩ v2).setCell ⟨g,3,none⟩ v3).setCell ⟨g,4,none⟩ v4).setCell ⟨g,5,none⟩ v5).setCell ⟨g,6,none⟩ v6).setCell ⟨g,7,none⟩ v7).setCell ⟨g,8,none⟩ v8).setCell ⟨g,9,none⟩ v9).setCell ⟨g,10,none⟩ v10).setCell ⟨g,11,none⟩ v11).setCell ⟨g,12,none⟩ v12):=by
 repeat refine Below.setCell ?_ hg _
 exact h
theorem qbk (h:Below w.heap.size w W) (hg:w.heap.size≤g):Below w.heap.size w ((((((((((((((W.setCell ⟨g,0,none⟩ v0).setCell ⟨g,1,none⟩ v1).setCell ⟨g,2,none⟩ v2).setCell ⟨g,3,none⟩ v3).setCell ⟨g,4,none⟩ v4).setCell ⟨g,5,none⟩ v5).setCell ⟨g,6,none⟩ v6).setCell ⟨g,7,none⟩ v7).setCell ⟨g,8,none⟩ v8).setCell ⟨g,9,none⟩ v9).setCell ⟨g,10,none⟩ v10).setCell ⟨g,11,none⟩ v11).setCell ⟨g,12,none⟩ v12).setCell ⟨g,13,none⟩ v13):=by
 repeat refine Below.setCell ?_ hg _
 exact h
theorem qaf (h:W.heap[g]?=some (.cells #[x0,x1,x2,x3,x4,x5,x6,x7,x8,x9,x10,x11,x12,x13] t (0,0))):W.cell? ⟨g,0,none⟩=some x0∧W.cell? ⟨g,1,none⟩=some x1∧W.cell? ⟨g,2,none⟩=some x2∧W.cell? ⟨g,3,none⟩=some x3∧W.cell? ⟨g,4,none⟩=some x4∧W.cell? ⟨g,5,none⟩=some x5∧W.cell? ⟨g,6,none⟩=some x6∧W.cell? ⟨g,7,none⟩=some x7∧W.cell? ⟨g,8,none⟩=some x8∧W.cell? ⟨g,9,none⟩=some x9∧W.cell? ⟨g,10,none⟩=some x10∧W.cell? ⟨g,11,none⟩=some x11∧W.cell? ⟨g,12,none⟩=some x12∧W.cell? ⟨g,13,none⟩=some x13:=by
 refine ⟨?_,?_,?_,?_,?_,?_,?_,?_,?_,?_,?_,?_,?_,?_⟩ <;> (rw [qac h];rfl)
theorem qaj (h:W.heap[g]?=some (.cells #[x0,x1,x2,x3,x4,x5,x6,x7,x8,x9,x10,x11,x12,x13] t (0,0))):W.frozen? ⟨g,0,none⟩=false∧W.frozen? ⟨g,1,none⟩=false∧W.frozen? ⟨g,2,none⟩=false∧W.frozen? ⟨g,3,none⟩=false∧W.frozen? ⟨g,4,none⟩=false∧W.frozen? ⟨g,5,none⟩=false∧W.frozen? ⟨g,6,none⟩=false∧W.frozen? ⟨g,7,none⟩=false∧W.frozen? ⟨g,8,none⟩=false∧W.frozen? ⟨g,9,none⟩=false∧W.frozen? ⟨g,10,none⟩=false∧W.frozen? ⟨g,11,none⟩=false∧W.frozen? ⟨g,12,none⟩=false∧W.frozen? ⟨g,13,none⟩=false :=
 ⟨Lib.frozen_of_heap h 0,Lib.frozen_of_heap h 1,Lib.frozen_of_heap h 2,Lib.frozen_of_heap h 3,Lib.frozen_of_heap h 4,Lib.frozen_of_heap h 5,Lib.frozen_of_heap h 6,Lib.frozen_of_heap h 7,Lib.frozen_of_heap h 8,Lib.frozen_of_heap h 9,Lib.frozen_of_heap h 10,Lib.frozen_of_heap h 11,Lib.frozen_of_heap h 12,Lib.frozen_of_heap h 13⟩
end
theorem qgr {R:LG×Nat} {x:RLg} {k:Nat} {w w':World} {e:Ending} (h1:rlOf R.1=x) (h2:R.2=k) (he:e=.returned (.tuple #[rlV x,.int .i64 (k:Int)])) (hb:Below w.heap.size w w'):qep (rlOf R.1,R.2) w e w':=by
 unfold qep
 dsimp only
 rw [h1,h2]
 exact ⟨he,hb⟩
theorem qce (a b c e:ByteArray) (h k D s:Bool) (R O M f p q:Nat):rlV ⟨⟨a,b,c,e,h,k,R,O,M,D⟩,f,p,q,s⟩=.agg #[.string a,.string b,.string c,.string e,.bool h,.bool k,.int .i64 (R:Int),.int .i64 (O:Int),.int .i64 (M:Int),.bool D,.int .i64 (f:Int),.int .i64 (p:Int),.int .i64 (q:Int),.bool s]:=rfl
theorem qof (a b c e:ByteArray) (h k D s s':Bool) (R O M f p q ck:Nat) (hs:(s || ck == 20)=s') (W:World) :
 Calls Tryz.prog 74 #[.agg #[.string a,.string b,.string c,.string e,.bool h,.bool k,.int .i64 (R:Int),.int .i64 (O:Int),.int .i64 (M:Int),.bool D,.int .i64 (f:Int),.int .i64 (p:Int),.int .i64 (q:Int),.bool s],.int .i64 (ck:Int)] W fun x w'=>x=.returned (.tuple #[.agg #[.string a,.string b,.string c,.string e,.bool h,.bool k,.int .i64 (R:Int),.int .i64 (O:Int),.int .i64 (M:Int),.bool D,.int .i64 (f:Int),.int .i64 (p:Int),.int .i64 (q:Int),.bool s'],.int .i64 (ck:Int)])∧∃ o1 o2,w'=(W.alloc o1).alloc o2:=by
 have:=rShut_any ⟨⟨a,b,c,e,h,k,R,O,M,D⟩,f,p,q,s⟩ ck W
 unfold rShutQ at this
 dsimp only at this
 rw [hs] at this
 exact this
theorem qed (a b c e:ByteArray) (h k D s s':Bool) (R O M f p q ck:Nat) (hs:(s || ck == 20)=s') (W:World) :
 Calls Tryz.prog 74 #[.agg #[.string a,.string b,.string c,.string e,.bool h,.bool k,.int .i64 (R:Int),.int .i64 (O:Int),.int .i64 (M:Int),.bool D,.int .i64 (f:Int),.int .i64 (p:Int),.int .i64 (q:Int),.bool s],.int .i64 (ck:Int)] W fun x w'=>x=.returned (.tuple #[.agg #[.string a,.string b,.string c,.string e,.bool h,.bool k,.int .i64 (R:Int),.int .i64 (O:Int),.int .i64 (M:Int),.bool D,.int .i64 (f:Int),.int .i64 (p:Int),.int .i64 (q:Int),.bool s'],.int .i64 (ck:Int)])∧Below W.heap.size W w':=by
 refine (qof a b c e h k D s s' R O M f p q ck hs W).mono ?_
 rintro _ _ ⟨rfl,o1,o2,rfl⟩
 exact ⟨rfl,qab (bel1 W o1) o2⟩
set_option maxHeartbeats 4000000 in
theorem qjy (l:LG) (ep:Nat) (st:ByteArray) (A:Option Addr) (c:Nat) (d:Array EV) (w:World) (hok:l.d.ok) (ho:l.d.ops≤999999990) (hf:l.file=0∨l.file=1)
 (hr:RdK qbx 2 w.heap.size w A d) (hd:d.size≤200000) (hev:∀ i,i < d.size→d[i]!.2.size≤1000000) :
 Calls Tryz.prog 41 #[rlV (rlOf l),.int .i64 (ep:Int),.string st,.slice A d.size c] w (qep (rlOf (layP l ep st d.toList).1,(layP l ep st d.toList).2) w):=by
 have HFR:=hI (fun (W:World) (hb:Below w.heap.size w W)=>qsw ep st A c d W (hr.next_L hb) hd hev)
 unfold RFrP at HFR
 obtain ⟨t,ht⟩:∃ t:Nat,(1 - (l.file:Int))=(t:Int):=⟨1 - l.file,by rcases hf with e | e <;> rw [e] <;> rfl⟩
 obtain ⟨r0,hr0⟩:∃ r,rdOf l.d=r:=⟨_,rfl⟩
 have HLV:Hid (rlOf l=⟨r0,l.file,l.ep,l.sq,l.shut⟩):=by show _=_;rw [←hr0];rfl
 rw [HLV.out]
 have ht2:t=0∨t=1:=by omega
 have hfl:l.file≤1:=by omega
 by_cases h0:ptC ep st d.toList=0
 rotate_left
 ·have HQ:Hid (layP l ep st d.toList=(l,2)):=qjq h0
  rw [HQ.out,HLV.out]
  rw [if_neg h0,if_neg h0] at HFR
  clear hok ho hf hr hd hev h0 HQ HLV hr0 ht ht2 hfl
  obtain ⟨d0,file,sep,sq,shut⟩:=l
  dsimp only
  obtain ⟨a0,b0,c0',e0,h0,k0,R0,O0,M0,D0⟩:=r0
  unfold qep rlV qsv
  dsimp only
  go_enter Tryz.func41,Tryz.ntmps41
  go_wp2_with fail
  refine (HFR.out _ (qab (bel1 w _) _)).mono ?_
  rintro e w1 ⟨rfl,hb1⟩
  have HB1:=hI (qad (qab (bel1 w _) _) hb1)
  have HX1:Hid (w1.heap[w.heap.size]?=some (.cells #[.string a0,.string b0,.string c0',.string e0,.bool h0,.bool k0,.int .i64 (R0:Int),.int .i64 (O0:Int),.int .i64 (M0:Int),.bool D0,.int .i64 (file:Int),.int .i64 (sep:Int),.int .i64 (sq:Int),.bool shut] 41 (0,0))):=(hb1.block _ (by simp;omega)).trans ((Below.heap_alloc _ _ _ (by simp)).trans (qas w _))
  have HY1:Hid (w1.heap[w.heap.size + 1]?=some (.cells #[.string ⟨#[]⟩,.string ⟨#[]⟩,.string ⟨#[]⟩,.string ⟨#[]⟩,.bool false,.bool false,.int .i64 0,.int .i64 0,.int .i64 0,.bool false,.int .i64 0,.int .i64 0,.int .i64 0,.bool false] 41 (0,0))):=(hb1.block _ (by simp)).trans (by have hx:=qas (w.alloc (.cells #[.string a0,.string b0,.string c0',.string e0,.bool h0,.bool k0,.int .i64 (R0:Int),.int .i64 (O0:Int),.int .i64 (M0:Int),.bool D0,.int .i64 (file:Int),.int .i64 (sep:Int),.int .i64 (sq:Int),.bool shut] 41)) (.cells #[.string ⟨#[]⟩,.string ⟨#[]⟩,.string ⟨#[]⟩,.string ⟨#[]⟩,.bool false,.bool false,.int .i64 0,.int .i64 0,.int .i64 0,.bool false,.int .i64 0,.int .i64 0,.int .i64 0,.bool false] 41);rw [show (w.alloc (.cells #[.string a0,.string b0,.string c0',.string e0,.bool h0,.bool k0,.int .i64 (R0:Int),.int .i64 (O0:Int),.int .i64 (M0:Int),.bool D0,.int .i64 (file:Int),.int .i64 (sep:Int),.int .i64 (sq:Int),.bool shut] 41)).heap.size=w.heap.size + 1 by simp] at hx;exact hx)
  clear hb1 HFR
  obtain ⟨p0,p1,p2,p3,p4,p5,p6,p7,p8,p9,p10,p11,p12,p13⟩:=qaf HX1.out
  obtain ⟨y0,y1,y2,y3,y4,y5,y6,y7,y8,y9,y10,y11,y12,y13⟩:=qaf HY1.out
  obtain ⟨q0,q1,q2,q3,q4,q5,q6,q7,q8,q9,q10,q11,q12,q13⟩:=qaj HX1.out
  obtain ⟨z0,z1,z2,z3,z4,z5,z6,z7,z8,z9,z10,z11,z12,z13⟩:=qaj HY1.out
  go_wp2
  refine bodyPost_ret (v:=.tuple #[.agg #[.string a0,.string b0,.string c0',.string e0,.bool h0,.bool k0,.int .i64 (R0:Int),.int .i64 (O0:Int),.int .i64 (M0:Int),.bool D0,.int .i64 (file:Int),.int .i64 (sep:Int),.int .i64 (sq:Int),.bool shut],.int .i64 2]) (by simp [results,Tryz.results41,go_sem,y0,y1,y2,y3,y4,y5,y6,y7,y8,y9,y10,y11,y12,y13]) rfl ?_
  exact ⟨rfl,qbk HB1.out (Nat.le_succ _)⟩
 have HQ:Hid (layP l ep st d.toList=layM l ep (ptA ep st d.toList) d.size):=by show _=_;rw [qsl hf h0];simp
 rw [HQ.out]
 have hbz:(ptA ep st d.toList).size≤2000000000:=by
  have:=qju h0
  rw [qut]
  simp at this
  omega
 rw [if_pos h0,if_pos h0] at HFR
 generalize ptA ep st d.toList=bs at HFR hbz ⊢
 obtain ⟨q1,hq1⟩:∃ q,qbf l.d (t:Int)=q:=⟨_,rfl⟩
 obtain ⟨d1,c1⟩:=q1
 obtain ⟨q2,hq2⟩:∃ q,appQ d1 (t:Int) bs=q:=⟨_,rfl⟩
 obtain ⟨d2,c2⟩:=q2
 obtain ⟨q3,hq3⟩:∃ q,qca d2 (t:Int)=q:=⟨_,rfl⟩
 obtain ⟨d3,c3⟩:=q3
 have HM:=hI (qji l t ep d.size bs ht d1 d2 d3 c1 c2 c3 hq1 hq2 hq3)
 obtain ⟨k1,o1,-⟩:=qhq hok (t:Int)
 rw [hq1] at k1 o1
 obtain ⟨k2,o2,-⟩:=qku k1 (t:Int) bs
 rw [hq2] at k2 o2
 dsimp only at k1 o1 k2 o2
 have HR1:=hI (fun (W:World)=>qme (rdOf l.d) (t:Int) W (qen hok (by omega)))
 have HR2:=hI (fun (W:World)=>qhe (rdOf d1) (t:Int) bs hbz W (qen k1 (by omega)))
 have HR3:=hI (fun (W:World)=>qkr (rdOf d2) (t:Int) W (qen k2 (by omega)))
 rw [qml,hq1,hr0] at HR1
 rw [qnv k1,hq2] at HR2
 rw [qky k2,hq3] at HR3
 obtain ⟨R,hR⟩:∃ R,layM l ep bs d.size=R:=⟨_,rfl⟩
 rw [hR] at HM ⊢
 have HE:Hid (∀ (dk:DK) (ck:Nat),R=shutG l dk ck→rlOf R.1=⟨rdOf dk,l.file,l.ep,l.sq,l.shut || ck == 20⟩∧R.2=ck):=fun dk ck h=>by rw [h];exact ⟨rfl,rfl⟩
 have HZ:Hid (R=(⟨d3,t,ep,d.size,l.shut⟩,0)→rlOf R.1=⟨rdOf d3,t,ep,d.size,l.shut⟩∧R.2=0):=fun h=>by rw [h];exact ⟨rfl,rfl⟩
 have HE1:=hI (HE.out d1 c1)
 have HE2:=hI (HE.out d2 c2)
 have HE3:=hI (HE.out d3 c3)
 have h1s:t≤1:=by omega
 clear HE HLV hr hev hok ho hf hq1 hq2 hq3 hR hr0 k1 k2 o1 o2 h0 HQ hbz ht2
 generalize rdOf d1=r1 at HR1 HR2 HE1
 generalize rdOf d2=r2 at HR2 HR3 HE2
 generalize rdOf d3=r3 at HR3 HE3 HZ
 obtain ⟨d0,file,sep,sq,shut⟩:=l
 dsimp only at HM HE1 HE2 HE3 HZ ht hfl ⊢
 obtain ⟨a0,b0,c0',e0,h0,k0,R0,O0,M0,D0⟩:=r0
 obtain ⟨a1,b1,c1',e1,h1,k1,R1,O1,M1,D1⟩:=r1
 obtain ⟨a2,b2,c2',e2,h2,k2,R2,O2,M2,D2⟩:=r2
 obtain ⟨a3,b3,c3',e3,h3,k3,R3,O3,M3,D3⟩:=r3
 unfold qet rdV qbh at HR1 HR2 HR3
 dsimp only at HR1 HR2 HR3
 rw [qce]
 obtain ⟨s1,hs1⟩:∃ s,(shut || c1 == 20)=s:=⟨_,rfl⟩
 obtain ⟨s2,hs2⟩:∃ s,(shut || c2 == 20)=s:=⟨_,rfl⟩
 obtain ⟨s3,hs3⟩:∃ s,(shut || c3 == 20)=s:=⟨_,rfl⟩
 rw [hs1] at HE1
 rw [hs2] at HE2
 rw [hs3] at HE3
 have HS1:=hI (qed a1 b1 c1' e1 h1 k1 D1 shut s1 R1 O1 M1 file sep sq c1 hs1)
 have HS2:=hI (qed a2 b2 c2' e2 h2 k2 D2 shut s2 R2 O2 M2 file sep sq c2 hs2)
 have HS3:=hI (qed a3 b3 c3' e3 h3 k3 D3 shut s3 R3 O3 M3 file sep sq c3 hs3)
 clear hs1 hs2 hs3
 go_enter Tryz.func41,Tryz.ntmps41
 go_wp2_with fail
 refine (HFR.out _ (qab (bel1 w _) _)).mono ?_
 rintro e w1 ⟨rfl,hb1⟩
 have HB1:=hI (qad (qab (bel1 w _) _) hb1)
 have HX1:Hid (w1.heap[w.heap.size]?=some (.cells #[.string a0,.string b0,.string c0',.string e0,.bool h0,.bool k0,.int .i64 (R0:Int),.int .i64 (O0:Int),.int .i64 (M0:Int),.bool D0,.int .i64 (file:Int),.int .i64 (sep:Int),.int .i64 (sq:Int),.bool shut] 41 (0,0))):=(hb1.block _ (by simp;omega)).trans ((Below.heap_alloc _ _ _ (by simp)).trans (qas w _))
 have HY1:Hid (w1.heap[w.heap.size + 1]?=some (.cells #[.string ⟨#[]⟩,.string ⟨#[]⟩,.string ⟨#[]⟩,.string ⟨#[]⟩,.bool false,.bool false,.int .i64 0,.int .i64 0,.int .i64 0,.bool false,.int .i64 0,.int .i64 0,.int .i64 0,.bool false] 41 (0,0))):=(hb1.block _ (by simp)).trans (by have hx:=qas (w.alloc (.cells #[.string a0,.string b0,.string c0',.string e0,.bool h0,.bool k0,.int .i64 (R0:Int),.int .i64 (O0:Int),.int .i64 (M0:Int),.bool D0,.int .i64 (file:Int),.int .i64 (sep:Int),.int .i64 (sq:Int),.bool shut] 41)) (.cells #[.string ⟨#[]⟩,.string ⟨#[]⟩,.string ⟨#[]⟩,.string ⟨#[]⟩,.bool false,.bool false,.int .i64 0,.int .i64 0,.int .i64 0,.bool false,.int .i64 0,.int .i64 0,.int .i64 0,.bool false] 41);rw [show (w.alloc (.cells #[.string a0,.string b0,.string c0',.string e0,.bool h0,.bool k0,.int .i64 (R0:Int),.int .i64 (O0:Int),.int .i64 (M0:Int),.bool D0,.int .i64 (file:Int),.int .i64 (sep:Int),.int .i64 (sq:Int),.bool shut] 41)).heap.size=w.heap.size + 1 by simp] at hx;exact hx)
 clear hb1 HFR
 obtain ⟨p0,p1,p2,p3,p4,p5,p6,p7,p8,p9,p10,p11,p12,p13⟩:=qaf HX1.out
 obtain ⟨y0,y1,y2,y3,y4,y5,y6,y7,y8,y9,y10,y11,y12,y13⟩:=qaf HY1.out
 obtain ⟨q0,q1,q2,q3,q4,q5,q6,q7,q8,q9,q10,q11,q12,q13⟩:=qaj HX1.out
 obtain ⟨z0,z1,z2,z3,z4,z5,z6,z7,z8,z9,z10,z11,z12,z13⟩:=qaj HY1.out
 go_wp2_with fail
 refine (HR1.out _).mono ?_
 rintro e w2 ⟨rfl,hb2⟩
 have HB2:=hI (qad HB1.out hb2)
 have HX2:Hid (w2.heap[w.heap.size]?=some (.cells #[.string a0,.string b0,.string c0',.string e0,.bool h0,.bool k0,.int .i64 (R0:Int),.int .i64 (O0:Int),.int .i64 (M0:Int),.bool D0,.int .i64 (file:Int),.int .i64 (sep:Int),.int .i64 (sq:Int),.bool shut] 41 (0,0))):=(hb2.block _ (qaa HX1.out)).trans HX1.out
 have HY2:Hid (w2.heap[w.heap.size + 1]?=some (.cells #[.string ⟨#[]⟩,.string ⟨#[]⟩,.string ⟨#[]⟩,.string ⟨#[]⟩,.bool false,.bool false,.int .i64 0,.int .i64 0,.int .i64 0,.bool false,.int .i64 0,.int .i64 0,.int .i64 0,.bool false] 41 (0,0))):=(hb2.block _ (qaa HY1.out)).trans HY1.out
 clear hb2 HR1 HX1 HY1 p0 p1 p2 p3 p4 p5 p6 p7 p8 p9 p10 p11 p12 p13 q0 q1 q2 q3 q4 q5 q6 q7 q8 q9 q10 q11 q12 q13 y0 y1 y2 y3 y4 y5 y6 y7 y8 y9 y10 y11 y12 y13 z0 z1 z2 z3 z4 z5 z6 z7 z8 z9 z10 z11 z12 z13
 obtain ⟨p0,p1,p2,p3,p4,p5,p6,p7,p8,p9,p10,p11,p12,p13⟩:=qaf HX2.out
 obtain ⟨y0,y1,y2,y3,y4,y5,y6,y7,y8,y9,y10,y11,y12,y13⟩:=qaf HY2.out
 obtain ⟨q0,q1,q2,q3,q4,q5,q6,q7,q8,q9,q10,q11,q12,q13⟩:=qaj HX2.out
 obtain ⟨z0,z1,z2,z3,z4,z5,z6,z7,z8,z9,z10,z11,z12,z13⟩:=qaj HY2.out
 by_cases hc1:c1≠0
 ·have hn:((c1:Int) != 0)=true:=by simp;omega
  have HEE:=hI (HE1.out (by rw [HM.out,if_pos hc1]))
  clear HM hc1
  go_wp2_with fail
  refine (HS1.out _).mono ?_
  rintro _ wz ⟨rfl,hbz⟩
  have HBZ:=hI (qad (qeu HB2.out (Nat.le_refl _)) hbz)
  have HYZ:Hid (wz.heap[w.heap.size + 1]?=some (.cells #[.string ⟨#[]⟩,.string ⟨#[]⟩,.string ⟨#[]⟩,.string ⟨#[]⟩,.bool false,.bool false,.int .i64 0,.int .i64 0,.int .i64 0,.bool false,.int .i64 0,.int .i64 0,.int .i64 0,.bool false] 41 (0,0))):=(hbz.block _ (qaa (qfc HY2.out (Nat.succ_ne_self _)))).trans (qfc HY2.out (Nat.succ_ne_self _))
  clear hbz HS1 HX2 HY2 HB2 p0 p1 p2 p3 p4 p5 p6 p7 p8 p9 p10 p11 p12 p13 q0 q1 q2 q3 q4 q5 q6 q7 q8 q9 q10 q11 q12 q13 y0 y1 y2 y3 y4 y5 y6 y7 y8 y9 y10 y11 y12 y13 z0 z1 z2 z3 z4 z5 z6 z7 z8 z9 z10 z11 z12 z13
  obtain ⟨y0,y1,y2,y3,y4,y5,y6,y7,y8,y9,y10,y11,y12,y13⟩:=qaf HYZ.out
  obtain ⟨z0,z1,z2,z3,z4,z5,z6,z7,z8,z9,z10,z11,z12,z13⟩:=qaj HYZ.out
  go_wp2
  refine bodyPost_ret (v:=.tuple #[.agg #[.string a1,.string b1,.string c1',.string e1,.bool h1,.bool k1,.int .i64 (R1:Int),.int .i64 (O1:Int),.int .i64 (M1:Int),.bool D1,.int .i64 (file:Int),.int .i64 (sep:Int),.int .i64 (sq:Int),.bool s1],.int .i64 (c1:Int)]) (by simp [results,Tryz.results41,go_sem,y0,y1,y2,y3,y4,y5,y6,y7,y8,y9,y10,y11,y12,y13]) rfl ?_
  exact qgr HEE.out.1 HEE.out.2 rfl (qbk HBZ.out (Nat.le_succ _))
 rw [if_neg hc1] at HM
 obtain rfl:c1=0:=by omega
 clear hc1 HE1 HS1
 go_wp2_with fail
 refine (HR2.out _).mono ?_
 rintro e w3 ⟨rfl,hb3⟩
 have HB3:=hI (qad (qeu HB2.out (Nat.le_refl _)) hb3)
 have HX3:Hid (w3.heap[w.heap.size]?=some (.cells #[.string a1,.string b1,.string c1',.string e1,.bool h1,.bool k1,.int .i64 (R1:Int),.int .i64 (O1:Int),.int .i64 (M1:Int),.bool D1,.int .i64 (file:Int),.int .i64 (sep:Int),.int .i64 (sq:Int),.bool shut] 41 (0,0))):=(hb3.block _ (qaa (qsx HX2.out))).trans (qsx HX2.out)
 have HY3:Hid (w3.heap[w.heap.size + 1]?=some (.cells #[.string ⟨#[]⟩,.string ⟨#[]⟩,.string ⟨#[]⟩,.string ⟨#[]⟩,.bool false,.bool false,.int .i64 0,.int .i64 0,.int .i64 0,.bool false,.int .i64 0,.int .i64 0,.int .i64 0,.bool false] 41 (0,0))):=(hb3.block _ (qaa (qfc HY2.out (Nat.succ_ne_self _)))).trans (qfc HY2.out (Nat.succ_ne_self _))
 clear hb3 HR2 HX2 HY2 HB2 p0 p1 p2 p3 p4 p5 p6 p7 p8 p9 p10 p11 p12 p13 q0 q1 q2 q3 q4 q5 q6 q7 q8 q9 q10 q11 q12 q13 y0 y1 y2 y3 y4 y5 y6 y7 y8 y9 y10 y11 y12 y13 z0 z1 z2 z3 z4 z5 z6 z7 z8 z9 z10 z11 z12 z13
 obtain ⟨p0,p1,p2,p3,p4,p5,p6,p7,p8,p9,p10,p11,p12,p13⟩:=qaf HX3.out
 obtain ⟨y0,y1,y2,y3,y4,y5,y6,y7,y8,y9,y10,y11,y12,y13⟩:=qaf HY3.out
 obtain ⟨q0,q1,q2,q3,q4,q5,q6,q7,q8,q9,q10,q11,q12,q13⟩:=qaj HX3.out
 obtain ⟨z0,z1,z2,z3,z4,z5,z6,z7,z8,z9,z10,z11,z12,z13⟩:=qaj HY3.out
 by_cases hc2:c2≠0
 ·have hn:((c2:Int) != 0)=true:=by simp;omega
  have HEE:=hI (HE2.out (by rw [HM.out,if_pos hc2]))
  clear HM hc2
  go_wp2_with fail
  refine (HS2.out _).mono ?_
  rintro _ wz ⟨rfl,hbz⟩
  have HBZ:=hI (qad (qeu HB3.out (Nat.le_refl _)) hbz)
  have HYZ:Hid (wz.heap[w.heap.size + 1]?=some (.cells #[.string ⟨#[]⟩,.string ⟨#[]⟩,.string ⟨#[]⟩,.string ⟨#[]⟩,.bool false,.bool false,.int .i64 0,.int .i64 0,.int .i64 0,.bool false,.int .i64 0,.int .i64 0,.int .i64 0,.bool false] 41 (0,0))):=(hbz.block _ (qaa (qfc HY3.out (Nat.succ_ne_self _)))).trans (qfc HY3.out (Nat.succ_ne_self _))
  clear hbz HS2 HX3 HY3 HB3 p0 p1 p2 p3 p4 p5 p6 p7 p8 p9 p10 p11 p12 p13 q0 q1 q2 q3 q4 q5 q6 q7 q8 q9 q10 q11 q12 q13 y0 y1 y2 y3 y4 y5 y6 y7 y8 y9 y10 y11 y12 y13 z0 z1 z2 z3 z4 z5 z6 z7 z8 z9 z10 z11 z12 z13
  obtain ⟨y0,y1,y2,y3,y4,y5,y6,y7,y8,y9,y10,y11,y12,y13⟩:=qaf HYZ.out
  obtain ⟨z0,z1,z2,z3,z4,z5,z6,z7,z8,z9,z10,z11,z12,z13⟩:=qaj HYZ.out
  go_wp2
  refine bodyPost_ret (v:=.tuple #[.agg #[.string a2,.string b2,.string c2',.string e2,.bool h2,.bool k2,.int .i64 (R2:Int),.int .i64 (O2:Int),.int .i64 (M2:Int),.bool D2,.int .i64 (file:Int),.int .i64 (sep:Int),.int .i64 (sq:Int),.bool s2],.int .i64 (c2:Int)]) (by simp [results,Tryz.results41,go_sem,y0,y1,y2,y3,y4,y5,y6,y7,y8,y9,y10,y11,y12,y13]) rfl ?_
  exact qgr HEE.out.1 HEE.out.2 rfl (qbk HBZ.out (Nat.le_succ _))
 rw [if_neg hc2] at HM
 obtain rfl:c2=0:=by omega
 clear hc2 HE2 HS2
 go_wp2_with fail
 refine (HR3.out _).mono ?_
 rintro e w4 ⟨rfl,hb4⟩
 have HB4:=hI (qad (qeu HB3.out (Nat.le_refl _)) hb4)
 have HX4:Hid (w4.heap[w.heap.size]?=some (.cells #[.string a2,.string b2,.string c2',.string e2,.bool h2,.bool k2,.int .i64 (R2:Int),.int .i64 (O2:Int),.int .i64 (M2:Int),.bool D2,.int .i64 (file:Int),.int .i64 (sep:Int),.int .i64 (sq:Int),.bool shut] 41 (0,0))):=(hb4.block _ (qaa (qsx HX3.out))).trans (qsx HX3.out)
 have HY4:Hid (w4.heap[w.heap.size + 1]?=some (.cells #[.string ⟨#[]⟩,.string ⟨#[]⟩,.string ⟨#[]⟩,.string ⟨#[]⟩,.bool false,.bool false,.int .i64 0,.int .i64 0,.int .i64 0,.bool false,.int .i64 0,.int .i64 0,.int .i64 0,.bool false] 41 (0,0))):=(hb4.block _ (qaa (qfc HY3.out (Nat.succ_ne_self _)))).trans (qfc HY3.out (Nat.succ_ne_self _))
 clear hb4 HR3 HX3 HY3 HB3 p0 p1 p2 p3 p4 p5 p6 p7 p8 p9 p10 p11 p12 p13 q0 q1 q2 q3 q4 q5 q6 q7 q8 q9 q10 q11 q12 q13 y0 y1 y2 y3 y4 y5 y6 y7 y8 y9 y10 y11 y12 y13 z0 z1 z2 z3 z4 z5 z6 z7 z8 z9 z10 z11 z12 z13
 obtain ⟨p0,p1,p2,p3,p4,p5,p6,p7,p8,p9,p10,p11,p12,p13⟩:=qaf HX4.out
 obtain ⟨y0,y1,y2,y3,y4,y5,y6,y7,y8,y9,y10,y11,y12,y13⟩:=qaf HY4.out
 obtain ⟨q0,q1,q2,q3,q4,q5,q6,q7,q8,q9,q10,q11,q12,q13⟩:=qaj HX4.out
 obtain ⟨z0,z1,z2,z3,z4,z5,z6,z7,z8,z9,z10,z11,z12,z13⟩:=qaj HY4.out
 by_cases hc3:c3≠0
 ·have hn:((c3:Int) != 0)=true:=by simp;omega
  have HEE:=hI (HE3.out (by rw [HM.out,if_pos hc3]))
  clear HM hc3
  go_wp2_with fail
  refine (HS3.out _).mono ?_
  rintro _ wz ⟨rfl,hbz⟩
  have HBZ:=hI (qad (qeu HB4.out (Nat.le_refl _)) hbz)
  have HYZ:Hid (wz.heap[w.heap.size + 1]?=some (.cells #[.string ⟨#[]⟩,.string ⟨#[]⟩,.string ⟨#[]⟩,.string ⟨#[]⟩,.bool false,.bool false,.int .i64 0,.int .i64 0,.int .i64 0,.bool false,.int .i64 0,.int .i64 0,.int .i64 0,.bool false] 41 (0,0))):=(hbz.block _ (qaa (qfc HY4.out (Nat.succ_ne_self _)))).trans (qfc HY4.out (Nat.succ_ne_self _))
  clear hbz HS3 HX4 HY4 HB4 p0 p1 p2 p3 p4 p5 p6 p7 p8 p9 p10 p11 p12 p13 q0 q1 q2 q3 q4 q5 q6 q7 q8 q9 q10 q11 q12 q13 y0 y1 y2 y3 y4 y5 y6 y7 y8 y9 y10 y11 y12 y13 z0 z1 z2 z3 z4 z5 z6 z7 z8 z9 z10 z11 z12 z13
  obtain ⟨y0,y1,y2,y3,y4,y5,y6,y7,y8,y9,y10,y11,y12,y13⟩:=qaf HYZ.out
  obtain ⟨z0,z1,z2,z3,z4,z5,z6,z7,z8,z9,z10,z11,z12,z13⟩:=qaj HYZ.out
  go_wp2
  refine bodyPost_ret (v:=.tuple #[.agg #[.string a3,.string b3,.string c3',.string e3,.bool h3,.bool k3,.int .i64 (R3:Int),.int .i64 (O3:Int),.int .i64 (M3:Int),.bool D3,.int .i64 (file:Int),.int .i64 (sep:Int),.int .i64 (sq:Int),.bool s3],.int .i64 (c3:Int)]) (by simp [results,Tryz.results41,go_sem,y0,y1,y2,y3,y4,y5,y6,y7,y8,y9,y10,y11,y12,y13]) rfl ?_
  exact qgr HEE.out.1 HEE.out.2 rfl (qbk HBZ.out (Nat.le_succ _))
 rw [if_neg hc3] at HM
 have HEE:=hI (HZ.out HM.out)
 obtain rfl:c3=0:=by omega
 clear hc3 HE3 HS3 HM
 go_upto_region 17 with (fail)
 generalize hw5:(((((((((((((w4.setCell ⟨w.heap.size,0,none⟩ (.string a3)).setCell ⟨w.heap.size,1,none⟩ (.string b3)).setCell ⟨w.heap.size,2,none⟩ (.string c3')).setCell ⟨w.heap.size,3,none⟩ (.string e3)).setCell ⟨w.heap.size,4,none⟩ (.bool h3)).setCell ⟨w.heap.size,5,none⟩ (.bool k3)).setCell ⟨w.heap.size,6,none⟩ (.int .i64 (R3:Int))).setCell ⟨w.heap.size,7,none⟩ (.int .i64 (O3:Int))).setCell ⟨w.heap.size,8,none⟩ (.int .i64 (M3:Int))).setCell ⟨w.heap.size,9,none⟩ (.bool D3)).setCell ⟨w.heap.size,10,none⟩ (.int .i64 (t:Int))).setCell ⟨w.heap.size,11,none⟩ (.int .i64 (ep:Int))).setCell ⟨w.heap.size,12,none⟩ (.int .i64 (d.size:Int)))=w5
 have HB5:Hid (Below w.heap.size w w5):=by rw [←hw5];exact bel13_L HB4.out (Nat.le_refl _)
 have HX5:Hid (w5.heap[w.heap.size]?=some (.cells #[.string a3,.string b3,.string c3',.string e3,.bool h3,.bool k3,.int .i64 (R3:Int),.int .i64 (O3:Int),.int .i64 (M3:Int),.bool D3,.int .i64 (t:Int),.int .i64 (ep:Int),.int .i64 (d.size:Int),.bool shut] 41 (0,0))):=by rw [←hw5];exact set13 HX4.out
 have HY5:Hid (w5.heap[w.heap.size + 1]?=some (.cells #[.string ⟨#[]⟩,.string ⟨#[]⟩,.string ⟨#[]⟩,.string ⟨#[]⟩,.bool false,.bool false,.int .i64 0,.int .i64 0,.int .i64 0,.bool false,.int .i64 0,.int .i64 0,.int .i64 0,.bool false] 41 (0,0))):=by rw [←hw5];exact far13 HY4.out (Nat.succ_ne_self _)
 clear hw5 HX4 HY4 HB4 p0 p1 p2 p3 p4 p5 p6 p7 p8 p9 p10 p11 p12 p13 q0 q1 q2 q3 q4 q5 q6 q7 q8 q9 q10 q11 q12 q13 y0 y1 y2 y3 y4 y5 y6 y7 y8 y9 y10 y11 y12 y13 z0 z1 z2 z3 z4 z5 z6 z7 z8 z9 z10 z11 z12 z13
 obtain ⟨p0,p1,p2,p3,p4,p5,p6,p7,p8,p9,p10,p11,p12,p13⟩:=qaf HX5.out
 obtain ⟨y0,y1,y2,y3,y4,y5,y6,y7,y8,y9,y10,y11,y12,y13⟩:=qaf HY5.out
 obtain ⟨q0,q1,q2,q3,q4,q5,q6,q7,q8,q9,q10,q11,q12,q13⟩:=qaj HX5.out
 obtain ⟨z0,z1,z2,z3,z4,z5,z6,z7,z8,z9,z10,z11,z12,z13⟩:=qaj HY5.out
 go_wp2
 refine bodyPost_ret (v:=.tuple #[.agg #[.string a3,.string b3,.string c3',.string e3,.bool h3,.bool k3,.int .i64 (R3:Int),.int .i64 (O3:Int),.int .i64 (M3:Int),.bool D3,.int .i64 (t:Int),.int .i64 (ep:Int),.int .i64 (d.size:Int),.bool shut],.int .i64 0]) (by simp [results,Tryz.results41,go_sem,y0,y1,y2,y3,y4,y5,y6,y7,y8,y9,y10,y11,y12,y13]) rfl ?_
 exact qgr HEE.out.1 HEE.out.2 rfl (qbk HB5.out (Nat.le_succ _))
end Go.Proofs.YtjkecckndfcbjaaGreatDoor
namespace Go.Proofs.YtjkecckndfcbjaaGreatDoor
open Go.RowKit Go.Sort Crc Nb
set_option maxRecDepth 100000
theorem qbi (w:World) (o:Obj) (o2:Obj):((w.alloc o).alloc o2).heap[w.heap.size]?=some o∧((w.alloc o).alloc o2).heap[w.heap.size + 1]?=some o2:=by
 refine ⟨(Below.heap_alloc _ _ _ (by simp)).trans (qas w _),?_⟩
 have hx:=qas (w.alloc o) o2
 rw [show (w.alloc o).heap.size=w.heap.size + 1 by simp] at hx
 exact hx
set_option maxHeartbeats 4000000 in
theorem qxg (l:LG) (st:ByteArray) (w:World) (hok:l.d.ok) (ho:l.d.ops≤999999990) (hf:l.file=0∨l.file=1) (hep:l.ep≤1000000) :
 Calls Tryz.prog 46 #[rlV (rlOf l),.string st] w (qep (rlOf (qdt l st).1,(qdt l st).2) w):=by
 have HL:=hI (fun (W:World)=>qjy l (l.ep + 1) st none 0 #[] W hok ho hf (fun h=>absurd h (Nat.lt_irrefl 0)) (by decide) (fun i hi=>absurd hi (Nat.not_lt_zero _)))
 have HQ:Hid (qdt l st=if l.shut then (l,20) else if 1000000≤l.ep then (l,9) else layP l (l.ep + 1) st []):=rfl
 have he0:((#[]:Array EV).toList)=[]:=rfl
 rw [he0] at HL
 have HZ:Hid (∀ x:LG×Nat,x=qdt l st→qep (rlOf x.1,x.2) w=qep (rlOf (qdt l st).1,(qdt l st).2) w):=fun x h=>by rw [h]
 have HLV:Hid (rlV (rlOf l)=rlV ⟨rdOf l.d,l.file,l.ep,l.sq,l.shut⟩):=rfl
 cases hs:l.shut
 ·by_cases h9:1000000≤l.ep
  ·have HP:Hid (qdt l st=(l,9)):=by show _=_;rw [HQ.out,hs,if_neg (by decide),if_pos h9]
   rw [HP.out]
   have HE:Hid (rlOf l=⟨rdOf l.d,l.file,l.ep,l.sq,false⟩):=by show _=_;rw [←hs];rfl
   unfold qep
   dsimp only
   rw [HE.out]
   have h9':(1000000:Int)≤(l.ep:Int):=by omega
   clear HL HQ HZ HLV HP HE hok ho hf hep h9 hs
   generalize rdOf l.d=r
   obtain ⟨d,f,p,q,s⟩:=l
   obtain ⟨a,b,c,e,h,k,R,O,M,D⟩:=r
   rw [qce]
   dsimp only at h9' ⊢
   go_enter Tryz.func46,Tryz.ntmps46
   go_wp2
   refine bodyPost_ret (v:=.tuple #[.agg #[.string a,.string b,.string c,.string e,.bool h,.bool k,.int .i64 (R:Int),.int .i64 (O:Int),.int .i64 (M:Int),.bool D,.int .i64 (f:Int),.int .i64 (p:Int),.int .i64 (q:Int),.bool false],.int .i64 9]) (by simp [results,Tryz.results46,go_sem]) rfl ?_
   exact ⟨rfl,(by repeat (first | exact bel1 w _ | refine Below.drew ?_ | refine qao ?_ _ | refine qab ?_ _))⟩
  ·have HP:Hid (qdt l st=layP l (l.ep + 1) st []):=by show _=_;rw [HQ.out,hs,if_neg (by decide),if_neg h9]
   rw [HP.out]
   have HE:Hid (rlOf l=⟨rdOf l.d,l.file,l.ep,l.sq,false⟩):=by show _=_;rw [←hs];rfl
   rw [HE.out] at HL ⊢
   have h9':¬ (1000000:Int)≤(l.ep:Int):=by omega
   generalize layP l (l.ep + 1) st []=X at HL ⊢
   obtain ⟨X,cx⟩:=X
   obtain ⟨lx,hlx⟩:∃ x,rlOf X=x:=⟨_,rfl⟩
   unfold qep at HL ⊢
   dsimp only at HL ⊢
   rw [hlx] at HL ⊢
   clear HQ HZ HLV HP HE hok ho hf h9 hs hlx he0
   generalize rdOf l.d=r at HL ⊢
   obtain ⟨d,f,p,q,s⟩:=l
   obtain ⟨a,b,c,e,h,k,R,O,M,D⟩:=r
   obtain ⟨⟨a1,b1,c1,e1,h1,k1,R1,O1,M1,D1⟩,f1,p1,q1,s1⟩:=lx
   rw [qce] at HL ⊢
   rw [qce] at HL ⊢
   dsimp only at h9' hep HL ⊢
   go_enter Tryz.func46,Tryz.ntmps46
   go_wp2_with fail
   refine (HL.out _).mono ?_
   rintro x w1 ⟨rfl,hb1⟩
   have HB1:=hI (qad (qab (bel1 w _) _) hb1)
   have HY1:Hid (w1.heap[w.heap.size + 1]?=some (.cells #[.string ⟨#[]⟩,.string ⟨#[]⟩,.string ⟨#[]⟩,.string ⟨#[]⟩,.bool false,.bool false,.int .i64 0,.int .i64 0,.int .i64 0,.bool false,.int .i64 0,.int .i64 0,.int .i64 0,.bool false] 41 (0,0))):=(hb1.block _ (by simp)).trans (qbi w _ _).2
   clear hb1 HL
   obtain ⟨y0,y1,y2,y3,y4,y5,y6,y7,y8,y9,y10,y11,y12,y13⟩:=qaf HY1.out
   obtain ⟨z0,z1,z2,z3,z4,z5,z6,z7,z8,z9,z10,z11,z12,z13⟩:=qaj HY1.out
   go_wp2
   refine bodyPost_ret (v:=.tuple #[.agg #[.string a1,.string b1,.string c1,.string e1,.bool h1,.bool k1,.int .i64 (R1:Int),.int .i64 (O1:Int),.int .i64 (M1:Int),.bool D1,.int .i64 (f1:Int),.int .i64 (p1:Int),.int .i64 (q1:Int),.bool s1],.int .i64 (cx:Int)]) (by simp [results,Tryz.results46,go_sem,y0,y1,y2,y3,y4,y5,y6,y7,y8,y9,y10,y11,y12,y13]) rfl ?_
   exact ⟨rfl,qbk HB1.out (Nat.le_succ _)⟩
 ·have HP:Hid (qdt l st=(l,20)):=by show _=_;rw [HQ.out,hs,if_pos rfl]
  rw [HP.out]
  have HE:Hid (rlOf l=⟨rdOf l.d,l.file,l.ep,l.sq,true⟩):=by show _=_;rw [←hs];rfl
  unfold qep
  dsimp only
  rw [HE.out]
  clear HL HQ HZ HLV HP HE hok ho hf hep hs
  generalize rdOf l.d=r
  obtain ⟨d,f,p,q,s⟩:=l
  obtain ⟨a,b,c,e,h,k,R,O,M,D⟩:=r
  rw [qce]
  dsimp only
  go_enter Tryz.func46,Tryz.ntmps46
  go_wp2
  refine bodyPost_ret (v:=.tuple #[.agg #[.string a,.string b,.string c,.string e,.bool h,.bool k,.int .i64 (R:Int),.int .i64 (O:Int),.int .i64 (M:Int),.bool D,.int .i64 (f:Int),.int .i64 (p:Int),.int .i64 (q:Int),.bool true],.int .i64 20]) (by simp [results,Tryz.results46,go_sem]) rfl ?_
  exact ⟨rfl,(by repeat (first | exact bel1 w _ | refine Below.drew ?_ | refine qao ?_ _ | refine qab ?_ _))⟩
end Go.Proofs.YtjkecckndfcbjaaGreatDoor
namespace Go.Proofs.YtjkecckndfcbjaaGreatDoor
open Go.RowKit Go.Sort Crc Nb
set_option maxRecDepth 100000
theorem far10a {W:World} {g k:Nat} {o o1:Obj} {v0 v1 v2 v3 v4 v5 v6 v7 v8 v9:Value} (h:W.heap[k]?=some o) (hk:k≠g):(((((((((((W.setCell ⟨g,0,none⟩ v0).setCell ⟨g,1,none⟩ v1).setCell ⟨g,2,none⟩ v2).setCell ⟨g,3,none⟩ v3).setCell ⟨g,4,none⟩ v4).setCell ⟨g,5,none⟩ v5).setCell ⟨g,6,none⟩ v6).setCell ⟨g,7,none⟩ v7).setCell ⟨g,8,none⟩ v8).setCell ⟨g,9,none⟩ v9).alloc o1).heap[k]?=some o :=
 (Below.heap_alloc _ _ _ (qaa (qfc h hk))).trans (qfc h hk)
set_option maxHeartbeats 4000000 in
theorem qxh (l:LG) (w:World) (hok:l.d.ok) (ho:l.d.ops≤999999990) (hf:l.file=0∨l.file=1) :
 Calls Tryz.prog 45 #[rlV (rlOf l)] w (qep (rlOf (qiw l).1,(qiw l).2) w):=by
 have HQ:Hid (qiw l=if l.shut then (l,20) else shutG l (qca l.d (l.file:Int)).1 (qca l.d (l.file:Int)).2):=qnt l hf
 cases hs:l.shut
 ·have HP:Hid (qiw l=shutG l (qca l.d (l.file:Int)).1 (qca l.d (l.file:Int)).2):=by show _=_;rw [HQ.out,hs,if_neg (by decide)]
  rw [HP.out]
  have HR:=hI (fun (W:World)=>qkr (rdOf l.d) (l.file:Int) W (qen hok (by omega)))
  rw [qky hok] at HR
  have HE:Hid (rlOf l=⟨rdOf l.d,l.file,l.ep,l.sq,false⟩):=by show _=_;rw [←hs];rfl
  rw [HE.out]
  generalize qca l.d (l.file:Int)=X at HR ⊢
  obtain ⟨dx,cx⟩:=X
  have HEX:Hid (rlOf (shutG l dx cx).1=⟨rdOf dx,l.file,l.ep,l.sq,false || cx == 20⟩):=by show _=_;rw [←hs];rfl
  have hfl:l.file≤1:=by omega
  dsimp only
  rw [HEX.out]
  unfold qep
  dsimp only
  rw [show (shutG l dx cx).2=cx from rfl]
  clear HQ HP HE HEX hok ho hf hs
  generalize rdOf dx=r1 at HR ⊢
  generalize rdOf l.d=r at HR ⊢
  obtain ⟨d,f,p,q,s⟩:=l
  obtain ⟨a,b,c,e,h,k,R,O,M,D⟩:=r
  obtain ⟨a1,b1,c1,e1,h1,k1,R1,O1,M1,D1⟩:=r1
  obtain ⟨s1,hs1⟩:∃ x,(false || cx == 20)=x:=⟨_,rfl⟩
  rw [hs1]
  have HS:=hI (qed a1 b1 c1 e1 h1 k1 D1 false s1 R1 O1 M1 f p q cx hs1)
  clear hs1
  rw [qce]
  rw [qce]
  unfold qet rdV qbh at HR
  dsimp only at HR hfl ⊢
  go_enter Tryz.func45,Tryz.ntmps45
  go_wp2_with fail
  refine (HR.out _).mono ?_
  rintro x w1 ⟨rfl,hb1⟩
  have HB1:=hI (qad (qab (bel1 w _) _) hb1)
  have HX1:Hid (w1.heap[w.heap.size]?=some (.cells #[.string a,.string b,.string c,.string e,.bool h,.bool k,.int .i64 (R:Int),.int .i64 (O:Int),.int .i64 (M:Int),.bool D,.int .i64 (f:Int),.int .i64 (p:Int),.int .i64 (q:Int),.bool false] 41 (0,0))):=(hb1.block _ (by simp;omega)).trans (qbi w _ _).1
  have HY1:Hid (w1.heap[w.heap.size + 1]?=some (.cells #[.string ⟨#[]⟩,.string ⟨#[]⟩,.string ⟨#[]⟩,.string ⟨#[]⟩,.bool false,.bool false,.int .i64 0,.int .i64 0,.int .i64 0,.bool false,.int .i64 0,.int .i64 0,.int .i64 0,.bool false] 41 (0,0))):=(hb1.block _ (by simp)).trans (qbi w _ _).2
  have hl1:w.heap.size < w1.heap.size:=qaa HX1.out
  clear hb1 HR
  obtain ⟨p0,p1,p2,p3,p4,p5,p6,p7,p8,p9,p10,p11,p12,p13⟩:=qaf HX1.out
  obtain ⟨q0,q1,q2,q3,q4,q5,q6,q7,q8,q9,q10,q11,q12,q13⟩:=qaj HX1.out
  go_wp2_with fail
  refine (HS.out _).mono ?_
  rintro _ wz ⟨rfl,hbz⟩
  have HBZ:=hI (qad (qab (qeu HB1.out (Nat.le_refl _)) _) hbz)
  have HYZ:Hid (wz.heap[w.heap.size + 1]?=some (.cells #[.string ⟨#[]⟩,.string ⟨#[]⟩,.string ⟨#[]⟩,.string ⟨#[]⟩,.bool false,.bool false,.int .i64 0,.int .i64 0,.int .i64 0,.bool false,.int .i64 0,.int .i64 0,.int .i64 0,.bool false] 41 (0,0))):=(hbz.block _ (qaa (far10a HY1.out (Nat.succ_ne_self _)))).trans (far10a HY1.out (Nat.succ_ne_self _))
  clear hbz HS HX1 HY1 HB1 hl1 p0 p1 p2 p3 p4 p5 p6 p7 p8 p9 p10 p11 p12 p13 q0 q1 q2 q3 q4 q5 q6 q7 q8 q9 q10 q11 q12 q13
  obtain ⟨y0,y1,y2,y3,y4,y5,y6,y7,y8,y9,y10,y11,y12,y13⟩:=qaf HYZ.out
  obtain ⟨z0,z1,z2,z3,z4,z5,z6,z7,z8,z9,z10,z11,z12,z13⟩:=qaj HYZ.out
  go_wp2
  refine bodyPost_ret (v:=.tuple #[.agg #[.string a1,.string b1,.string c1,.string e1,.bool h1,.bool k1,.int .i64 (R1:Int),.int .i64 (O1:Int),.int .i64 (M1:Int),.bool D1,.int .i64 (f:Int),.int .i64 (p:Int),.int .i64 (q:Int),.bool s1],.int .i64 (cx:Int)]) (by simp [results,Tryz.results45,go_sem,y0,y1,y2,y3,y4,y5,y6,y7,y8,y9,y10,y11,y12,y13]) rfl ?_
  exact ⟨rfl,qbk HBZ.out (Nat.le_succ _)⟩
 ·have HP:Hid (qiw l=(l,20)):=by show _=_;rw [HQ.out,hs,if_pos rfl]
  rw [HP.out]
  have HE:Hid (rlOf l=⟨rdOf l.d,l.file,l.ep,l.sq,true⟩):=by show _=_;rw [←hs];rfl
  unfold qep
  dsimp only
  rw [HE.out]
  clear HQ HP HE hok ho hf hs
  generalize rdOf l.d=r
  obtain ⟨d,f,p,q,s⟩:=l
  obtain ⟨a,b,c,e,h,k,R,O,M,D⟩:=r
  rw [qce]
  dsimp only
  go_enter Tryz.func45,Tryz.ntmps45
  go_wp2
  refine bodyPost_ret (v:=.tuple #[.agg #[.string a,.string b,.string c,.string e,.bool h,.bool k,.int .i64 (R:Int),.int .i64 (O:Int),.int .i64 (M:Int),.bool D,.int .i64 (f:Int),.int .i64 (p:Int),.int .i64 (q:Int),.bool true],.int .i64 20]) (by simp [results,Tryz.results45,go_sem]) rfl ?_
  exact ⟨rfl,(by repeat (first | exact bel1 w _ | refine Below.drew ?_ | refine qao ?_ _ | refine qab ?_ _))⟩
end Go.Proofs.YtjkecckndfcbjaaGreatDoor
namespace Go.Proofs.YtjkecckndfcbjaaGreatDoor
open Go.RowKit Go.Sort Crc Nb
set_option maxRecDepth 100000
theorem qde (w:World) (o o2 o3:Obj):(((w.alloc o).alloc o2).alloc o3).heap[w.heap.size]?=some o∧(((w.alloc o).alloc o2).alloc o3).heap[w.heap.size + 2]?=some o3:=by
 refine ⟨(Below.heap_alloc _ _ _ (by simp;omega)).trans (qbi w o o2).1,?_⟩
 have hx:=qas ((w.alloc o).alloc o2) o3
 rw [show ((w.alloc o).alloc o2).heap.size=w.heap.size + 2 by simp] at hx
 exact hx
theorem set11 {W:World} {g:Nat} {t:TypeId} {v0 v1 v2 v3 v4 v5 v6 v7 v8 v9 v12 x0 x1 x2 x3 x4 x5 x6 x7 x8 x9 x10 x11 x12 x13:Value} (h:W.heap[g]?=some (.cells #[x0,x1,x2,x3,x4,x5,x6,x7,x8,x9,x10,x11,x12,x13] t (0,0))):(((((((((((W.setCell ⟨g,0,none⟩ v0).setCell ⟨g,1,none⟩ v1).setCell ⟨g,2,none⟩ v2).setCell ⟨g,3,none⟩ v3).setCell ⟨g,4,none⟩ v4).setCell ⟨g,5,none⟩ v5).setCell ⟨g,6,none⟩ v6).setCell ⟨g,7,none⟩ v7).setCell ⟨g,8,none⟩ v8).setCell ⟨g,9,none⟩ v9).setCell ⟨g,12,none⟩ v12).heap[g]?=some (.cells #[v0,v1,v2,v3,v4,v5,v6,v7,v8,v9,x10,x11,v12,x13] t (0,0)):=by
 have h1:=qae (qsx (v0:=v0) (v1:=v1) (v2:=v2) (v3:=v3) (v4:=v4) (v5:=v5) (v6:=v6) (v7:=v7) (v8:=v8) (v9:=v9) h) 12 v12
 rw [h1]
 simp only [List.setIfInBounds_toArray,List.set_cons_succ,List.set_cons_zero]
set_option maxHeartbeats 4000000 in
theorem rAddL_any (l:LG) (ek:Int) (ed:ByteArray) (w:World) (hok:l.d.ok) (ho:l.d.ops≤999999990) (hf:l.file=0∨l.file=1) (hsq:l.sq≤1000000) (hez:ed.size≤1000000) :
 Calls Tryz.prog 44 #[rlV (rlOf l),.agg #[.int .i64 ek,.string ed]] w (qep (rlOf (addG l (ek,ed)).1,(addG l (ek,ed)).2) w):=by
 have HQ:Hid (addG l (ek,ed)=addM l (ek,ed)):=qsk l hf (ek,ed)
 unfold addM at HQ
 cases hs:l.shut
 ·by_cases h9:1000000≤l.sq
  ·have h9':(1000000:Int)≤(l.sq:Int):=by omega
   have HP:Hid (addG l (ek,ed)=(l,9)):=by show _=_;rw [HQ.out,hs];rw [if_neg (by decide),if_pos h9]
   rw [HP.out]
   have HE:Hid (rlOf l=⟨rdOf l.d,l.file,l.ep,l.sq,false⟩):=by show _=_;rw [←hs];rfl
   unfold qep
   dsimp only
   rw [HE.out]
   clear HQ HP HE hok ho hf hsq h9 hs
   generalize rdOf l.d=r
   obtain ⟨d,f,p,q,s⟩:=l
   obtain ⟨a,b,c,e,h,k,R,O,M,D⟩:=r
   rw [qce]
   dsimp only at h9' ⊢
   go_enter Tryz.func44,Tryz.ntmps44
   go_wp2
   refine bodyPost_ret (v:=.tuple #[.agg #[.string a,.string b,.string c,.string e,.bool h,.bool k,.int .i64 (R:Int),.int .i64 (O:Int),.int .i64 (M:Int),.bool D,.int .i64 (f:Int),.int .i64 (p:Int),.int .i64 (q:Int),.bool false],.int .i64 9]) (by simp [results,Tryz.results44,go_sem]) rfl ?_
   exact ⟨rfl,(by repeat (first | exact bel1 w _ | refine Below.drew ?_ | refine qao ?_ _ | refine qab ?_ _))⟩
  ·by_cases hrc:recC (evR l.ep (l.sq + 1) (ek,ed))=0
   rotate_left
   ·have HP:Hid (addG l (ek,ed)=(l,2)):=by show _=_;rw [HQ.out,hs,if_neg (by decide),if_neg h9,if_pos hrc]
    rw [HP.out]
    have HE:Hid (rlOf l=⟨rdOf l.d,l.file,l.ep,l.sq,false⟩):=by show _=_;rw [←hs];rfl
    have HC:=hI (fun W=>qey (evR l.ep (l.sq + 1) (ek,ed)) W hez hrc)
    unfold qep
    dsimp only
    rw [HE.out]
    have h9':¬ (1000000:Int)≤(l.sq:Int):=by omega
    unfold recV evR at HC
    clear HQ HP HE hok ho hf h9 hs hrc
    generalize rdOf l.d=r
    obtain ⟨d,f,p,q,s⟩:=l
    obtain ⟨a,b,c,e,h,k,R,O,M,D⟩:=r
    rw [qce]
    dsimp only at h9' hsq HC ⊢
    go_enter Tryz.func44,Tryz.ntmps44
    go_wp2_with fail
    refine (HC.out _).mono ?_
    rintro x w1 ⟨rfl,hb1⟩
    have HB1:=hI (qad (qab (qab (bel1 w _) _) _) hb1)
    have HX1:Hid (w1.heap[w.heap.size]?=some (.cells #[.string a,.string b,.string c,.string e,.bool h,.bool k,.int .i64 (R:Int),.int .i64 (O:Int),.int .i64 (M:Int),.bool D,.int .i64 (f:Int),.int .i64 (p:Int),.int .i64 (q:Int),.bool false] 41 (0,0))):=(hb1.block _ (by simp;omega)).trans (qde w _ _ _).1
    have HY1:Hid (w1.heap[w.heap.size + 2]?=some (.cells #[.string ⟨#[]⟩,.string ⟨#[]⟩,.string ⟨#[]⟩,.string ⟨#[]⟩,.bool false,.bool false,.int .i64 0,.int .i64 0,.int .i64 0,.bool false,.int .i64 0,.int .i64 0,.int .i64 0,.bool false] 41 (0,0))):=(hb1.block _ (by simp)).trans (qde w _ _ _).2
    clear hb1 HC
    obtain ⟨p0,p1,p2,p3,p4,p5,p6,p7,p8,p9,p10,p11,p12,p13⟩:=qaf HX1.out
    obtain ⟨y0,y1,y2,y3,y4,y5,y6,y7,y8,y9,y10,y11,y12,y13⟩:=qaf HY1.out
    obtain ⟨z0,z1,z2,z3,z4,z5,z6,z7,z8,z9,z10,z11,z12,z13⟩:=qaj HY1.out
    go_wp2
    refine bodyPost_ret (v:=.tuple #[.agg #[.string a,.string b,.string c,.string e,.bool h,.bool k,.int .i64 (R:Int),.int .i64 (O:Int),.int .i64 (M:Int),.bool D,.int .i64 (f:Int),.int .i64 (p:Int),.int .i64 (q:Int),.bool false],.int .i64 2]) (by simp [results,Tryz.results44,go_sem,y0,y1,y2,y3,y4,y5,y6,y7,y8,y9,y10,y11,y12,y13]) rfl ?_
    exact ⟨rfl,qbk HB1.out (Nat.le_add_right _ 2)⟩
   have HC:=hI (fun W=>qfr (evR l.ep (l.sq + 1) (ek,ed)) W hez hrc)
   have HF:Hid (∀ W,Calls Tryz.prog 71 #[.string ⟨(recB (evR l.ep (l.sq + 1) (ek,ed))).toArray⟩] W fun e w'=>e=.returned (.tuple #[.string ⟨(qak (recB (evR l.ep (l.sq + 1) (ek,ed)))).toArray⟩,.int .i64 0])∧Below W.heap.size W w'):=fun W=>by
    have:=qkt ⟨(recB (evR l.ep (l.sq + 1) (ek,ed))).toArray⟩ W (by rw [qaz];have:=qgn hrc;omega)
    rw [frW_of] at this
    exact this
   obtain ⟨fb,hfb⟩:∃ y:ByteArray,⟨(qak (recB (evR l.ep (l.sq + 1) (ek,ed)))).toArray⟩=y:=⟨_,rfl⟩
   have hfs:fb.size≤2000000000:=by
    rw [←hfb,qaz]
    have:=qnz hrc
    omega
   rw [hs,if_neg (by decide),if_neg h9,if_neg (fun hx=>hx hrc),hfb] at HQ
   rw [hfb] at HF
   have HR:=hI (fun (W:World)=>qhe (rdOf l.d) (l.file:Int) fb hfs W (qen hok (by omega)))
   rw [qnv hok] at HR
   generalize appQ l.d (l.file:Int) fb=X at HR HQ
   obtain ⟨dx,cx⟩:=X
   dsimp only at HQ
   obtain ⟨Z,hZ⟩:∃ Z,addG l (ek,ed)=Z:=⟨_,rfl⟩
   rw [hZ] at HQ ⊢
   have HE1:Hid (Z=shutG l dx cx→rlOf Z.1=⟨rdOf dx,l.file,l.ep,l.sq,false || cx == 20⟩∧Z.2=cx):=fun hx=>by rw [hx,←hs];exact ⟨rfl,rfl⟩
   have HE2:Hid (Z=(⟨dx,l.file,l.ep,l.sq + 1,false⟩,0)→rlOf Z.1=⟨rdOf dx,l.file,l.ep,l.sq + 1,false⟩∧Z.2=0):=fun hx=>by rw [hx];exact ⟨rfl,rfl⟩
   have HE:Hid (rlOf l=⟨rdOf l.d,l.file,l.ep,l.sq,false⟩):=by show _=_;rw [←hs];rfl
   rw [HE.out]
   have h9':¬ (1000000:Int)≤(l.sq:Int):=by omega
   have hfl:l.file≤1:=by omega
   generalize (⟨(recB (evR l.ep (l.sq + 1) (ek,ed))).toArray⟩:ByteArray)=rb at HF HC
   unfold recV evR at HC
   clear HE hok ho hf h9 hs hrc hZ hfb hfs
   generalize rdOf dx=r1 at HR HE1 HE2
   generalize rdOf l.d=r at HR ⊢
   obtain ⟨d,f,p,q,s⟩:=l
   obtain ⟨a,b,c,e,h,k,R,O,M,D⟩:=r
   obtain ⟨a1,b1,c1,e1,h1,k1,R1,O1,M1,D1⟩:=r1
   obtain ⟨s1,hs1⟩:∃ x,(false || cx == 20)=x:=⟨_,rfl⟩
   rw [hs1] at HE1
   dsimp only at HE1 HE2 HC HQ h9' hsq hfl ⊢
   have HS:=hI (qed a1 b1 c1 e1 h1 k1 D1 false s1 R1 O1 M1 f p q cx hs1)
   clear hs1
   rw [qce]
   unfold qet rdV qbh at HR
   dsimp only at HR
   go_enter Tryz.func44,Tryz.ntmps44
   go_wp2_with fail
   refine (HC.out _).mono ?_
   rintro x w1 ⟨rfl,hb1⟩
   have HB1:=hI (qad (qab (qab (bel1 w _) _) _) hb1)
   have HX1:Hid (w1.heap[w.heap.size]?=some (.cells #[.string a,.string b,.string c,.string e,.bool h,.bool k,.int .i64 (R:Int),.int .i64 (O:Int),.int .i64 (M:Int),.bool D,.int .i64 (f:Int),.int .i64 (p:Int),.int .i64 (q:Int),.bool false] 41 (0,0))):=(hb1.block _ (by simp;omega)).trans (qde w _ _ _).1
   have HY1:Hid (w1.heap[w.heap.size + 2]?=some (.cells #[.string ⟨#[]⟩,.string ⟨#[]⟩,.string ⟨#[]⟩,.string ⟨#[]⟩,.bool false,.bool false,.int .i64 0,.int .i64 0,.int .i64 0,.bool false,.int .i64 0,.int .i64 0,.int .i64 0,.bool false] 41 (0,0))):=(hb1.block _ (by simp)).trans (qde w _ _ _).2
   clear hb1 HC
   go_wp2_with fail
   refine (HF.out _).mono ?_
   rintro x w2 ⟨rfl,hb2⟩
   have HB2:=hI (qad HB1.out hb2)
   have HX2:Hid (w2.heap[w.heap.size]?=some (.cells #[.string a,.string b,.string c,.string e,.bool h,.bool k,.int .i64 (R:Int),.int .i64 (O:Int),.int .i64 (M:Int),.bool D,.int .i64 (f:Int),.int .i64 (p:Int),.int .i64 (q:Int),.bool false] 41 (0,0))):=(hb2.block _ (qaa HX1.out)).trans HX1.out
   have HY2:Hid (w2.heap[w.heap.size + 2]?=some (.cells #[.string ⟨#[]⟩,.string ⟨#[]⟩,.string ⟨#[]⟩,.string ⟨#[]⟩,.bool false,.bool false,.int .i64 0,.int .i64 0,.int .i64 0,.bool false,.int .i64 0,.int .i64 0,.int .i64 0,.bool false] 41 (0,0))):=(hb2.block _ (qaa HY1.out)).trans HY1.out
   clear hb2 HF HX1 HY1 HB1
   obtain ⟨p0,p1,p2,p3,p4,p5,p6,p7,p8,p9,p10,p11,p12,p13⟩:=qaf HX2.out
   go_wp2_with fail
   refine (HR.out _).mono ?_
   rintro x w3 ⟨rfl,hb3⟩
   have HB3:=hI (qad HB2.out hb3)
   have HX3:Hid (w3.heap[w.heap.size]?=some (.cells #[.string a,.string b,.string c,.string e,.bool h,.bool k,.int .i64 (R:Int),.int .i64 (O:Int),.int .i64 (M:Int),.bool D,.int .i64 (f:Int),.int .i64 (p:Int),.int .i64 (q:Int),.bool false] 41 (0,0))):=(hb3.block _ (qaa HX2.out)).trans HX2.out
   have HY3:Hid (w3.heap[w.heap.size + 2]?=some (.cells #[.string ⟨#[]⟩,.string ⟨#[]⟩,.string ⟨#[]⟩,.string ⟨#[]⟩,.bool false,.bool false,.int .i64 0,.int .i64 0,.int .i64 0,.bool false,.int .i64 0,.int .i64 0,.int .i64 0,.bool false] 41 (0,0))):=(hb3.block _ (qaa HY2.out)).trans HY2.out
   clear hb3 HR HX2 HY2 HB2 p0 p1 p2 p3 p4 p5 p6 p7 p8 p9 p10 p11 p12 p13
   obtain ⟨p0,p1,p2,p3,p4,p5,p6,p7,p8,p9,p10,p11,p12,p13⟩:=qaf HX3.out
   obtain ⟨q0,q1,q2,q3,q4,q5,q6,q7,q8,q9,q10,q11,q12,q13⟩:=qaj HX3.out
   by_cases hc:cx≠0
   ·have hn:((cx:Int) != 0)=true:=by simp;omega
    have HEE:=hI (HE1.out (by rw [HQ.out,if_pos hc]))
    clear HQ hc HE1 HE2
    go_wp2_with fail
    refine (HS.out _).mono ?_
    rintro _ wz ⟨rfl,hbz⟩
    have HBZ:=hI (qad (qeu HB3.out (Nat.le_refl _)) hbz)
    have hne:w.heap.size + 2≠w.heap.size:=by omega
    have HYZ:Hid (wz.heap[w.heap.size + 2]?=some (.cells #[.string ⟨#[]⟩,.string ⟨#[]⟩,.string ⟨#[]⟩,.string ⟨#[]⟩,.bool false,.bool false,.int .i64 0,.int .i64 0,.int .i64 0,.bool false,.int .i64 0,.int .i64 0,.int .i64 0,.bool false] 41 (0,0))):=(hbz.block _ (qaa (qfc HY3.out hne))).trans (qfc HY3.out hne)
    clear hbz HS HX3 HY3 HB3 hne p0 p1 p2 p3 p4 p5 p6 p7 p8 p9 p10 p11 p12 p13 q0 q1 q2 q3 q4 q5 q6 q7 q8 q9 q10 q11 q12 q13
    obtain ⟨y0,y1,y2,y3,y4,y5,y6,y7,y8,y9,y10,y11,y12,y13⟩:=qaf HYZ.out
    obtain ⟨z0,z1,z2,z3,z4,z5,z6,z7,z8,z9,z10,z11,z12,z13⟩:=qaj HYZ.out
    go_wp2
    refine bodyPost_ret (v:=.tuple #[.agg #[.string a1,.string b1,.string c1,.string e1,.bool h1,.bool k1,.int .i64 (R1:Int),.int .i64 (O1:Int),.int .i64 (M1:Int),.bool D1,.int .i64 (f:Int),.int .i64 (p:Int),.int .i64 (q:Int),.bool s1],.int .i64 (cx:Int)]) (by simp [results,Tryz.results44,go_sem,y0,y1,y2,y3,y4,y5,y6,y7,y8,y9,y10,y11,y12,y13]) rfl ?_
    exact qgr HEE.out.1 HEE.out.2 rfl (qbk HBZ.out (Nat.le_add_right _ 2))
   ·have HEE:=hI (HE2.out (by rw [HQ.out,if_neg hc]))
    obtain rfl:cx=0:=by omega
    clear HQ hc HE1 HE2 HS
    go_upto_region 13 with (fail)
    generalize hw5:(((((((((((w3.setCell ⟨w.heap.size,0,none⟩ (.string a1)).setCell ⟨w.heap.size,1,none⟩ (.string b1)).setCell ⟨w.heap.size,2,none⟩ (.string c1)).setCell ⟨w.heap.size,3,none⟩ (.string e1)).setCell ⟨w.heap.size,4,none⟩ (.bool h1)).setCell ⟨w.heap.size,5,none⟩ (.bool k1)).setCell ⟨w.heap.size,6,none⟩ (.int .i64 (R1:Int))).setCell ⟨w.heap.size,7,none⟩ (.int .i64 (O1:Int))).setCell ⟨w.heap.size,8,none⟩ (.int .i64 (M1:Int))).setCell ⟨w.heap.size,9,none⟩ (.bool D1)).setCell ⟨w.heap.size,12,none⟩ (.int .i64 ((q:Int) + 1)))=w5
    have hne:w.heap.size + 2≠w.heap.size:=by omega
    have HB5:Hid (Below w.heap.size w w5):=by rw [←hw5];exact (qeu HB3.out (Nat.le_refl _)).setCell (Nat.le_refl _) _
    have HX5:Hid (w5.heap[w.heap.size]?=some (.cells #[.string a1,.string b1,.string c1,.string e1,.bool h1,.bool k1,.int .i64 (R1:Int),.int .i64 (O1:Int),.int .i64 (M1:Int),.bool D1,.int .i64 (f:Int),.int .i64 (p:Int),.int .i64 ((q:Int) + 1),.bool false] 41 (0,0))):=by rw [←hw5];exact set11 HX3.out
    have HY5:Hid (w5.heap[w.heap.size + 2]?=some (.cells #[.string ⟨#[]⟩,.string ⟨#[]⟩,.string ⟨#[]⟩,.string ⟨#[]⟩,.bool false,.bool false,.int .i64 0,.int .i64 0,.int .i64 0,.bool false,.int .i64 0,.int .i64 0,.int .i64 0,.bool false] 41 (0,0))):=by rw [←hw5];exact (Below.heap_setCell _ _ _ _ hne).trans (qfc HY3.out hne)
    clear hw5 HX3 HY3 HB3 hne p0 p1 p2 p3 p4 p5 p6 p7 p8 p9 p10 p11 p12 p13 q0 q1 q2 q3 q4 q5 q6 q7 q8 q9 q10 q11 q12 q13
    obtain ⟨p0,p1,p2,p3,p4,p5,p6,p7,p8,p9,p10,p11,p12,p13⟩:=qaf HX5.out
    obtain ⟨y0,y1,y2,y3,y4,y5,y6,y7,y8,y9,y10,y11,y12,y13⟩:=qaf HY5.out
    obtain ⟨z0,z1,z2,z3,z4,z5,z6,z7,z8,z9,z10,z11,z12,z13⟩:=qaj HY5.out
    go_wp2
    refine bodyPost_ret (v:=.tuple #[.agg #[.string a1,.string b1,.string c1,.string e1,.bool h1,.bool k1,.int .i64 (R1:Int),.int .i64 (O1:Int),.int .i64 (M1:Int),.bool D1,.int .i64 (f:Int),.int .i64 (p:Int),.int .i64 ((q:Int) + 1),.bool false],.int .i64 0]) (by simp [results,Tryz.results44,go_sem,y0,y1,y2,y3,y4,y5,y6,y7,y8,y9,y10,y11,y12,y13]) rfl ?_
    exact qgr HEE.out.1 HEE.out.2 rfl (qbk HB5.out (Nat.le_add_right _ 2))
 ·have HP:Hid (addG l (ek,ed)=(l,20)):=by show _=_;rw [HQ.out,hs];rw [if_pos rfl]
  rw [HP.out]
  have HE:Hid (rlOf l=⟨rdOf l.d,l.file,l.ep,l.sq,true⟩):=by show _=_;rw [←hs];rfl
  unfold qep
  dsimp only
  rw [HE.out]
  clear HQ HP HE hok ho hf hsq hs
  generalize rdOf l.d=r
  obtain ⟨d,f,p,q,s⟩:=l
  obtain ⟨a,b,c,e,h,k,R,O,M,D⟩:=r
  rw [qce]
  dsimp only at ⊢
  go_enter Tryz.func44,Tryz.ntmps44
  go_wp2
  refine bodyPost_ret (v:=.tuple #[.agg #[.string a,.string b,.string c,.string e,.bool h,.bool k,.int .i64 (R:Int),.int .i64 (O:Int),.int .i64 (M:Int),.bool D,.int .i64 (f:Int),.int .i64 (p:Int),.int .i64 (q:Int),.bool true],.int .i64 20]) (by simp [results,Tryz.results44,go_sem]) rfl ?_
  exact ⟨rfl,(by repeat (first | exact bel1 w _ | refine Below.drew ?_ | refine qao ?_ _ | refine qab ?_ _))⟩
end Go.Proofs.YtjkecckndfcbjaaGreatDoor
namespace Go.Proofs.YtjkecckndfcbjaaGreatDoor
open Go.RowKit Go.Sort Crc Nb
set_option maxRecDepth 100000
def qog (h g:Nat) (x:LG) (w:World) (e:Ending) (w':World):Prop:=e=.returned (.tuple #[.pointer (some ⟨h,0,none⟩),rlV (rlOf x),.bool true])∧LAt w' h g x∧But2 g h w w'
theorem But2.heapK {g h:Nat} {w w':World} (x:But2 g h w w') {k:Nat} {o:Obj} (hk:w.heap[k]?=some o) (hg:g < k) (hh:h < k):w'.heap[k]?=some o:=x.heap hk (by omega) (by omega)
theorem Glob.ne_dsk {w:World} {g:Nat} {d:DK} (h:Glob w) (x:DAt w g d):0≠g:=fun e=>by
 subst e
 have h1:=qac x 0
 unfold Glob at h
 rw [h1] at h
 injection h with h
 cases h
theorem Glob.ne_log {w:World} {g k:Nat} {l:LG} (h:Glob w) (x:LAt w k g l):0≠k:=fun e=>by
 subst e
 have h1:=qac x.box 0
 unfold Glob at h
 rw [h1] at h
 injection h with h
 cases h
theorem Glob.but2 {w w':World} {g k:Nat} {l:LG} (h:Glob w) (x:LAt w k g l) (hb:But2 g k w w'):Glob w':=(hb.cellA (p:=⟨0,0,none⟩) (qan h) (h.ne_dsk x.dsk) (h.ne_log x)).trans h
theorem qid {w W:World} {b:Nat} {v0 v1 v2 v3 v4 v5 v6 v7 v8 v9 v10 v11 v12 v13:Value} (h:But b w W):But b w ((((((((((((((W.setCell ⟨b,0,none⟩ v0).setCell ⟨b,1,none⟩ v1).setCell ⟨b,2,none⟩ v2).setCell ⟨b,3,none⟩ v3).setCell ⟨b,4,none⟩ v4).setCell ⟨b,5,none⟩ v5).setCell ⟨b,6,none⟩ v6).setCell ⟨b,7,none⟩ v7).setCell ⟨b,8,none⟩ v8).setCell ⟨b,9,none⟩ v9).setCell ⟨b,10,none⟩ v10).setCell ⟨b,11,none⟩ v11).setCell ⟨b,12,none⟩ v12).setCell ⟨b,13,none⟩ v13):=by
 repeat refine But.set ?_ _ _
 exact h
theorem lat14 {W:World} {b k g:Nat} {l:LG} {v0 v1 v2 v3 v4 v5 v6 v7 v8 v9 v10 v11 v12 v13:Value} (x:LAt W k g l) (h1:g≠b) (h2:k≠b):LAt ((((((((((((((W.setCell ⟨b,0,none⟩ v0).setCell ⟨b,1,none⟩ v1).setCell ⟨b,2,none⟩ v2).setCell ⟨b,3,none⟩ v3).setCell ⟨b,4,none⟩ v4).setCell ⟨b,5,none⟩ v5).setCell ⟨b,6,none⟩ v6).setCell ⟨b,7,none⟩ v7).setCell ⟨b,8,none⟩ v8).setCell ⟨b,9,none⟩ v9).setCell ⟨b,10,none⟩ v10).setCell ⟨b,11,none⟩ v11).setCell ⟨b,12,none⟩ v12).setCell ⟨b,13,none⟩ v13) k g l:=x.but (qid (But.refl b W)) h1 h2
theorem qlg {w W:World} {b k g:Nat} {v0 v1 v2 v3 v4 v5 v6 v7 v8 v9 v10 v11 v12 v13:Value} (x:But2 g k w W) (hb:w.heap.size≤b):But2 g k w ((((((((((((((W.setCell ⟨b,0,none⟩ v0).setCell ⟨b,1,none⟩ v1).setCell ⟨b,2,none⟩ v2).setCell ⟨b,3,none⟩ v3).setCell ⟨b,4,none⟩ v4).setCell ⟨b,5,none⟩ v5).setCell ⟨b,6,none⟩ v6).setCell ⟨b,7,none⟩ v7).setCell ⟨b,8,none⟩ v8).setCell ⟨b,9,none⟩ v9).setCell ⟨b,10,none⟩ v10).setCell ⟨b,11,none⟩ v11).setCell ⟨b,12,none⟩ v12).setCell ⟨b,13,none⟩ v13):=by
 have h:=qid (v0:=v0) (v1:=v1) (v2:=v2) (v3:=v3) (v4:=v4) (v5:=v5) (v6:=v6) (v7:=v7) (v8:=v8) (v9:=v9) (v10:=v10) (v11:=v11) (v12:=v12) (v13:=v13) (But.refl b W)
 exact ⟨h.os.trans x.os,h.tape.trans x.tape,h.output.trans x.output,Nat.le_trans x.size h.size,fun i hi h1 h2=>(h.block i (Nat.lt_of_lt_of_le hi x.size) (by omega)).trans (x.block i hi h1 h2)⟩
theorem qvm {w:World} {b:Nat} {cs:Array Value} (h:w.heap[b]?=some (.cells cs 41 (0,0))):¬ Flt w b:=fun ⟨cs,f,h1⟩=>by
 rw [h] at h1
 injection h1 with h1
 injection h1 with _ h2
 exact absurd h2 (by decide)
theorem qls {W:World} {b:Nat} {t:TypeId} {v0 v1 v2 v3 v4 v5 v6 v7 v8 v9 v10 v11 v12 v13 x0 x1 x2 x3 x4 x5 x6 x7 x8 x9 x10 x11 x12 x13:Value} (h:W.heap[b]?=some (.cells #[x0,x1,x2,x3,x4,x5,x6,x7,x8,x9,x10,x11,x12,x13] t (0,0))):((((((((((((((W.setCell ⟨b,0,none⟩ v0).setCell ⟨b,1,none⟩ v1).setCell ⟨b,2,none⟩ v2).setCell ⟨b,3,none⟩ v3).setCell ⟨b,4,none⟩ v4).setCell ⟨b,5,none⟩ v5).setCell ⟨b,6,none⟩ v6).setCell ⟨b,7,none⟩ v7).setCell ⟨b,8,none⟩ v8).setCell ⟨b,9,none⟩ v9).setCell ⟨b,10,none⟩ v10).setCell ⟨b,11,none⟩ v11).setCell ⟨b,12,none⟩ v12).setCell ⟨b,13,none⟩ v13).heap[b]?=some (.cells #[v0,v1,v2,v3,v4,v5,v6,v7,v8,v9,v10,v11,v12,v13] t (0,0)):=by
 have h1:=qae (qae (qae (qae (qae (qae (qae (qae (qae (qae (qae (qae (qae (qae h 0 v0) 1 v1) 2 v2) 3 v3) 4 v4) 5 v5) 6 v6) 7 v7) 8 v8) 9 v9) 10 v10) 11 v11) 12 v12) 13 v13
 rw [h1]
 simp only [List.setIfInBounds_toArray,List.set_cons_succ,List.set_cons_zero]
theorem qlh {c:Nat} {e:Ending} {w:World} (h:ErL c e w):∃ v ops,e=.returned v∧ErrV w ops (c:Int) v:=h
set_option maxHeartbeats 4000000 in
theorem qrc (l:LG) (h g:Nat) (ek o1 o2 o4 o7:Int) (ed tx o3 o5 o8:ByteArray) (o6 o9:Bool) (w:World) (hg:Glob w) (x:LAt w h g l) (hok:l.d.ok) (ho:l.d.ops≤999999990) (hf:l.file=0∨l.file=1) :
 Calls Tryz.prog 16 #[.pointer (some ⟨h,0,none⟩),.pointer (some ⟨g,0,none⟩),rlV (rlOf l),.agg #[.int .i64 1,.int .i64 ek,.string ed,.string tx,.int .i64 o1,.int .i64 o2,.string o3,.int .i64 o4,.string o5,.bool o6,.int .i64 o7,.string o8,.bool o9]] w (qog h g (qiw l).1 w):=by
 have HGK:=hI (fun (W:World) (hb:But2 g h w W)=>Glob.but2 hg x hb)
 have HS:=hI (fun (W:World) (hb:Below w.heap.size w W)=>qro l h g W (x.below hb) hok ho hf)
 have HR:=hI (fun (W:World)=>qxh l W hok ho hf)
 have hlh:=x.lth
 have hlg:=x.ltg
 generalize qiw l=X at HS HR ⊢
 obtain ⟨X,cx⟩:=X
 obtain ⟨lx,hlx⟩:∃ y,rlOf X=y:=⟨_,rfl⟩
 obtain ⟨ll,hll⟩:∃ y,rlOf l=y:=⟨_,rfl⟩
 unfold qog
 unfold qep at HR
 unfold LogP at HS
 dsimp only at HS HR ⊢
 rw [hlx,hll] at HR
 rw [hlx,hll]
 clear hlx hll hok ho hf x hg
 obtain ⟨⟨a,b,c,e,hh,k,R,O,M,D⟩,f,p,q,s⟩:=ll
 obtain ⟨⟨a1,b1,c1,e1,h1,k1,R1,O1,M1,D1⟩,fX,pX,qX,sX⟩:=lx
 rw [qce,qce] at HR
 rw [qce,qce]
 go_enter Tryz.func16,Tryz.ntmps16
 go_wp2_with fail
 refine (HS.out _ (qab (qab (bel1 w _) _) _)).mono ?_
 rintro x w1 ⟨he,hx1,hb1⟩
 obtain ⟨v,ops,rfl,hv⟩:=qlh he
 have HV1:=hI hv
 have X1:=hI hx1
 have HX1:Hid (w1.heap[w.heap.size]?=some (.cells #[.string a,.string b,.string c,.string e,.bool hh,.bool k,.int .i64 (R:Int),.int .i64 (O:Int),.int .i64 (M:Int),.bool D,.int .i64 (f:Int),.int .i64 (p:Int),.int .i64 (q:Int),.bool s] 41 (0,0))):=hb1.heapK (qde w _ _ _).1 hlg hlh
 have HY1:Hid (w1.heap[w.heap.size + 2]?=some (.cells #[.string ⟨#[]⟩,.string ⟨#[]⟩,.string ⟨#[]⟩,.string ⟨#[]⟩,.bool false,.bool false,.int .i64 0,.int .i64 0,.int .i64 0,.bool false,.int .i64 0,.int .i64 0,.int .i64 0,.bool false] 41 (0,0))):=hb1.heapK (qde w _ _ _).2 (by omega) (by omega)
 have HB1:=hI ((But2.of (g:=g) (h:=h) (qab (qab (bel1 w _) _) _)).trans hb1)
 clear he hv hx1 hb1 HS
 obtain ⟨p0,p1,p2,p3,p4,p5,p6,p7,p8,p9,p10,p11,p12,p13⟩:=qaf HX1.out
 go_wp2_with fail
 refine (HR.out _).mono ?_
 rintro x w2 ⟨rfl,hb2⟩
 have HX2:Hid (w2.heap[w.heap.size]?=some (.cells #[.string a,.string b,.string c,.string e,.bool hh,.bool k,.int .i64 (R:Int),.int .i64 (O:Int),.int .i64 (M:Int),.bool D,.int .i64 (f:Int),.int .i64 (p:Int),.int .i64 (q:Int),.bool s] 41 (0,0))):=(hb2.block _ (qaa HX1.out)).trans HX1.out
 have HY2:Hid (w2.heap[w.heap.size + 2]?=some (.cells #[.string ⟨#[]⟩,.string ⟨#[]⟩,.string ⟨#[]⟩,.string ⟨#[]⟩,.bool false,.bool false,.int .i64 0,.int .i64 0,.int .i64 0,.bool false,.int .i64 0,.int .i64 0,.int .i64 0,.bool false] 41 (0,0))):=(hb2.block _ (qaa HY1.out)).trans HY1.out
 have X2:=hI (X1.out.below hb2)
 have HV2:=hI (HV1.out.below hb2)
 have HB2:=hI (HB1.out.trans (But2.of (g:=g) (h:=h) hb2))
 clear hb2 HR HX1 HY1 X1 HV1 HB1 p0 p1 p2 p3 p4 p5 p6 p7 p8 p9 p10 p11 p12 p13
 obtain ⟨p0,p1,p2,p3,p4,p5,p6,p7,p8,p9,p10,p11,p12,p13⟩:=qaf HX2.out
 obtain ⟨q0,q1,q2,q3,q4,q5,q6,q7,q8,q9,q10,q11,q12,q13⟩:=qaj HX2.out
 go_upto_region 23 with (fail)
 generalize hw5:((((((((((((((w2.setCell ⟨w.heap.size,0,none⟩ (.string a1)).setCell ⟨w.heap.size,1,none⟩ (.string b1)).setCell ⟨w.heap.size,2,none⟩ (.string c1)).setCell ⟨w.heap.size,3,none⟩ (.string e1)).setCell ⟨w.heap.size,4,none⟩ (.bool h1)).setCell ⟨w.heap.size,5,none⟩ (.bool k1)).setCell ⟨w.heap.size,6,none⟩ (.int .i64 (R1:Int))).setCell ⟨w.heap.size,7,none⟩ (.int .i64 (O1:Int))).setCell ⟨w.heap.size,8,none⟩ (.int .i64 (M1:Int))).setCell ⟨w.heap.size,9,none⟩ (.bool D1)).setCell ⟨w.heap.size,10,none⟩ (.int .i64 (fX:Int))).setCell ⟨w.heap.size,11,none⟩ (.int .i64 (pX:Int))).setCell ⟨w.heap.size,12,none⟩ (.int .i64 (qX:Int))).setCell ⟨w.heap.size,13,none⟩ (.bool sX))=w5
 have hbg:g≠w.heap.size:=by omega
 have hbh:h≠w.heap.size:=by omega
 have HBU:Hid (But w.heap.size w2 w5):=by rw [←hw5];exact qid (But.refl _ _)
 have HX5:Hid (w5.heap[w.heap.size]?=some (.cells #[.string a1,.string b1,.string c1,.string e1,.bool h1,.bool k1,.int .i64 (R1:Int),.int .i64 (O1:Int),.int .i64 (M1:Int),.bool D1,.int .i64 (fX:Int),.int .i64 (pX:Int),.int .i64 (qX:Int),.bool sX] 41 (0,0))):=by rw [←hw5];exact qls HX2.out
 have HY5:Hid (w5.heap[w.heap.size + 2]?=some (.cells #[.string ⟨#[]⟩,.string ⟨#[]⟩,.string ⟨#[]⟩,.string ⟨#[]⟩,.bool false,.bool false,.int .i64 0,.int .i64 0,.int .i64 0,.bool false,.int .i64 0,.int .i64 0,.int .i64 0,.bool false] 41 (0,0))):=HBU.out.heap HY2.out (by omega)
 have X5:=hI (X2.out.but HBU.out hbg hbh)
 have HV5:=hI (HV2.out.but HBU.out (qvm HX2.out))
 have HB5:Hid (But2 g h w w5):=⟨HBU.out.os.trans HB2.out.os,HBU.out.tape.trans HB2.out.tape,HBU.out.output.trans HB2.out.output,Nat.le_trans HB2.out.size HBU.out.size,fun i hi h1 h2=>(HBU.out.block i (Nat.lt_of_lt_of_le hi HB2.out.size) (Nat.ne_of_lt hi)).trans (HB2.out.block i hi h1 h2)⟩
 have HC:=hI (fun (W:World) (hb:Below w5.heap.size w5 W)=>qbt ops (cx:Int) v W ((HGK.out w5 HB5.out).below hb) (HV5.out.below hb))
 clear hw5 HBU HX2 HY2 X2 HV2 HB2 HGK p0 p1 p2 p3 p4 p5 p6 p7 p8 p9 p10 p11 p12 p13 q0 q1 q2 q3 q4 q5 q6 q7 q8 q9 q10 q11 q12 q13
 obtain ⟨p0,p1,p2,p3,p4,p5,p6,p7,p8,p9,p10,p11,p12,p13⟩:=qaf HX5.out
 obtain ⟨y0,y1,y2,y3,y4,y5,y6,y7,y8,y9,y10,y11,y12,y13⟩:=qaf HY5.out
 obtain ⟨z0,z1,z2,z3,z4,z5,z6,z7,z8,z9,z10,z11,z12,z13⟩:=qaj HY5.out
 go_region_with (go_at_call 15;refine (HC.out _ (by first | exact Below.refl _ _ | exact qao (Below.refl _ _) _ | exact Below.drew (Below.refl _ _))).mono ?_;rintro e w6 ⟨rfl,hb6⟩;have HX6:=hI ((hb6.block _ (qaa HX5.out)).trans HX5.out);have HY6:=hI ((hb6.block _ (qaa HY5.out)).trans HY5.out);(have HB6:Hid (Below w5.heap.size w5 w6):=(by first | exact hb6 | exact qad (Below.drew (Below.refl _ _)) hb6 | exact qad (qao (Below.refl _ _) _) hb6));clear hb6;obtain ⟨r0,r1,r2,r3,r4,r5,r6,r7,r8,r9,r10,r11,r12,r13⟩:=qaf HX6.out;obtain ⟨u0,u1,u2,u3,u4,u5,u6,u7,u8,u9,u10,u11,u12,u13⟩:=qaf HY6.out;obtain ⟨v0,v1,v2,v3,v4,v5,v6,v7,v8,v9,v10,v11,v12,v13⟩:=qaj HY6.out)
 all_goals go_wp2
 all_goals (refine bodyPost_ret (v:=.tuple #[.pointer (some ⟨h,0,none⟩),.agg #[.string a1,.string b1,.string c1,.string e1,.bool h1,.bool k1,.int .i64 (R1:Int),.int .i64 (O1:Int),.int .i64 (M1:Int),.bool D1,.int .i64 (fX:Int),.int .i64 (pX:Int),.int .i64 (qX:Int),.bool sX],.bool true]) (by simp [results,Tryz.results16,go_sem,u0,u1,u2,u3,u4,u5,u6,u7,u8,u9,u10,u11,u12,u13]) rfl ?_)
 all_goals exact ⟨rfl,lat14 (X5.out.below HB6.out) (by omega) (by omega),qlg (HB5.out.trans (But2.of HB6.out)) (by omega)⟩
end Go.Proofs.YtjkecckndfcbjaaGreatDoor
namespace Go.Proofs.YtjkecckndfcbjaaGreatDoor
open Go.RowKit Go.Sort Crc Nb
set_option maxRecDepth 100000
theorem qcv (W:World) (B:Nat):W.ownsRow B 56 2 (.slice none 0 0) (evA []).size (flatK qbx 2 (evA [])).toList:=qec W B _ qbx 2
theorem qhf {w w':World} {g B s n:Nat} {e:TypeId} {v:Value} {xs:List Value} (hr:w.ownsRow B e s v n xs) (x:But g w w') (hB:0 < B) (hh:v.ownBlock≠some g):w'.ownsRow B e s v n xs:=qol hr (x.right 0) hB hh
theorem qli {d:DK} (hdd:d.dead=false):qcu d 0=(d.f0.s,0)∧qcu d 1=(d.f1.s,0):=by
 constructor <;> (unfold qcu;rw [if_neg (by unfold DK.up;rw [hdd];decide)];rfl)
theorem qjz {W:World} {B s n:Nat} {e:TypeId} {v:Value} {xs:List Value} (h:W.ownsRow B e s v n xs):W.drew.ownsRow B e s v n xs:=h
theorem qam {W:World} {g:Nat} {t:TypeId} {x0 x1 x2 x3 x4 x5 x6 x7 x8 x9:Value} (h:W.heap[g]?=some (.cells #[x0,x1,x2,x3,x4,x5,x6,x7,x8,x9] t (0,0))):W.cell? ⟨g,0,none⟩=some x0∧W.cell? ⟨g,1,none⟩=some x1∧W.cell? ⟨g,2,none⟩=some x2∧W.cell? ⟨g,3,none⟩=some x3∧W.cell? ⟨g,4,none⟩=some x4∧W.cell? ⟨g,5,none⟩=some x5∧W.cell? ⟨g,6,none⟩=some x6∧W.cell? ⟨g,7,none⟩=some x7∧W.cell? ⟨g,8,none⟩=some x8∧W.cell? ⟨g,9,none⟩=some x9:=by
 refine ⟨?_,?_,?_,?_,?_,?_,?_,?_,?_,?_⟩ <;> (rw [qac h];rfl)
theorem qcf {W:World} {g:Nat} {t:TypeId} {x0 x1 x2 x3:Value} (h:W.heap[g]?=some (.cells #[x0,x1,x2,x3] t (0,0))):W.cell? ⟨g,0,none⟩=some x0∧W.cell? ⟨g,1,none⟩=some x1∧W.cell? ⟨g,2,none⟩=some x2∧W.cell? ⟨g,3,none⟩=some x3:=by
 refine ⟨?_,?_,?_,?_⟩ <;> (rw [qac h];rfl)
theorem own14 {W:World} {g B s n:Nat} {e:TypeId} {v:Value} {xs:List Value} {v0 v1 v2 v3 v4 v5 v6 v7 v8 v9 v10 v11 v12 v13:Value} (hr:W.ownsRow B e s v n xs) (hB:0 < B) (hh:v.ownBlock≠some g):((((((((((((((W.setCell ⟨g,0,none⟩ v0).setCell ⟨g,1,none⟩ v1).setCell ⟨g,2,none⟩ v2).setCell ⟨g,3,none⟩ v3).setCell ⟨g,4,none⟩ v4).setCell ⟨g,5,none⟩ v5).setCell ⟨g,6,none⟩ v6).setCell ⟨g,7,none⟩ v7).setCell ⟨g,8,none⟩ v8).setCell ⟨g,9,none⟩ v9).setCell ⟨g,10,none⟩ v10).setCell ⟨g,11,none⟩ v11).setCell ⟨g,12,none⟩ v12).setCell ⟨g,13,none⟩ v13).ownsRow B e s v n xs:=qhf hr (qid (But.refl g W)) hB hh
end Go.Proofs.YtjkecckndfcbjaaGreatDoor
