/- Texts that the law leans on. -/
import Derived.Test.YtjkecckndfcbjaaGreatDoorPCrcA
import Derived.Test.YtjkecckndfcbjaaGreatDoorPBoxG
import Derived.Test.YtjkecckndfcbjaaGreatDoorPBase
namespace Go.Proofs.YtjkecckndfcbjaaGreatDoor
open Go.RowKit Go.Lib Crc
set_option maxRecDepth 100000
def tbl (i:Nat):Array Value:=((List.range 16).map fun j=>Value.int .u32 (if j < i then ((half j).toNat:Int) else 0)).toArray
theorem qtu:tbl 0=#[.int .u32 0,.int .u32 0,.int .u32 0,.int .u32 0,.int .u32 0,.int .u32 0,.int .u32 0,.int .u32 0,.int .u32 0,.int .u32 0,.int .u32 0,.int .u32 0,.int .u32 0,.int .u32 0,.int .u32 0,.int .u32 0]:=rfl
theorem qei (i:Nat):(tbl i).size=16:=by simp [tbl]
theorem tbl_set (i:Nat):(tbl i).setIfInBounds i (.int .u32 ((half i).toNat:Int))=tbl (i + 1):=by
 apply Array.ext
 ·simp [tbl]
 ·intro j h1 h2
  rw [qei] at h2
  rw [Array.getElem_setIfInBounds (by rw [qei];exact h2)]
  by_cases hij:i=j
  ·subst hij
   simp [tbl]
  ·rw [if_neg hij]
   simp only [tbl,List.getElem_toArray,List.getElem_map,List.getElem_range]
   by_cases h3:j < i
   ·rw [if_pos h3,if_pos (by omega)]
   ·rw [if_neg h3,if_neg (by omega)]
theorem tbl_at {i:Nat} (h:i < 16):(tbl i)[i]?=some (.int .u32 0):=by
 simp [tbl,h]
theorem tbl_one (i:Nat):qtr (tbl i)=true:=by
 unfold qtr tbl
 simp [Value.oneCell']
def qni (t:TypeId) (v:Value):Sem Value:=Instr.loadAt t v
def qhi (t:TypeId) (v x:Value):Sem Unit:=Instr.storeAt t v x
theorem qpm (ρ:Operand→Value) (dst:Option Tmp) (x:Operand) (ty:TypeId) (pos:String) (after:Array Edge) (guard:Option (Nat×Bool)) :
 execOp ρ { dst,op:=.load 268 x,type:=ty,pos,after,guard }=(do pure (.value (← qni 268 (ρ x)))):=rfl
theorem qnj (ρ:Operand→Value) (dst:Option Tmp) (x y:Operand) (ty:TypeId) (pos:String) (after:Array Edge) (guard:Option (Nat×Bool)) :
 execOp ρ { dst,op:=.store 268 x y,type:=ty,pos,after,guard }=(do qhi 268 (ρ x) (ρ y);pure .skip):=rfl
theorem qpn (W:World) (g:Nat) (h:qpj W g 16=true):(qni 268 (.pointer (some ⟨g,0,none⟩))).run Tryz.prog W=.ok (.agg (qwm W g)) W:=by
 obtain ⟨t,h1,h2⟩:=qtq h
 simp only [qni,Instr.loadAt,Instr.sureAddr,Sem.run_bind,Sem.run_pure,Result.andThen]
 exact run_loadVar_row W g t 268 _ (0,0) _ h1 Tryz.underlying268 rfl (by rw [h2];kernel_rfl)
theorem qhj (W:World) (g:Nat) (cs:Array Value) (h:qpj W g 16=true) (hc:cs.size=16) (h1:qtr cs=true) :
 (qhi 268 (.pointer (some ⟨g,0,none⟩)) (.agg cs)).run Tryz.prog W=.ok () (W.setRow g cs):=by
 obtain ⟨t,h2,h3⟩:=qtq h
 simp only [qhi,Instr.storeAt,Instr.sureAddr,Sem.run_bind,Sem.run_pure,Result.andThen]
 exact run_storeVar_row W g t 268 _ cs h2 (by rw [hc];kernel_rfl) (by rw [h3,hc]) h1
theorem qin (W:World) (g:Nat) (zs cs:Array Value) (hg:W.heap.size=g) (hz:zs.size=16) (hc:cs.size=16) (h1:qtr cs=true) :
 (qhi 268 (.pointer (some ⟨g,0,none⟩)) (.agg cs)).run Tryz.prog (W.alloc (.cells zs 268))=.ok () (W.alloc (.cells cs 268)):=by
 subst hg
 exact run_storeAt_new W 268 zs cs (by rw [hc];kernel_rfl) (by rw [hz,hc]) h1
theorem results_H {fn:Func} {t:Tmp} (hf:fn.results=#[.cell t 268]) {tm:Array Value} {W:World} {g:Nat} {cs:Array Value} {T:TypeId} (hg:tm.getD t undef=.pointer (some ⟨g,0,none⟩)) (h:W.heap[g]?=some (.cells cs T (0,0))) (hc:cs.size=16):(results fn tm).run Tryz.prog W=.ok (.agg cs) W:=by
 have hg2:tm[t]?.getD undef=.pointer (some ⟨g,0,none⟩):=by rw [←Array.getD_eq_getD_getElem?];exact hg
 have hl:(loadVar 268 ⟨g,0,none⟩).run Tryz.prog W=.ok (.agg cs) W:=run_loadVar_row W g T 268 cs (0,0) _ h Tryz.underlying268 rfl (by rw [hc];kernel_rfl)
 simp [results,hf,hg2,asAddr,hl]
attribute [local go_sem ↓] qpm qnj
attribute [local go_sem] qpn qhj
theorem qkk (w:World) (o:Obj):(w.alloc o).heap[w.heap.size]?=some o:=by
 show (w.heap.push o)[w.heap.size]?=some o
 simp
set_option maxHeartbeats 400000 in
theorem qwo (w:World) :
 Calls Tryz.prog 161 #[] w fun e w'=>e=.returned (.agg (tbl 16))∧Below w.heap.size w w':=by
 go_enter Tryz.func161,Tryz.ntmps161
 go_upto_region 2 with (fail)
 have G0:Hid (((w.alloc (.cells (tbl 0) 268)).alloc (.cells (tbl 0) 268)).heap[w.heap.size]?=some (.cells (tbl 0) 268 (0,0))):=((bel1 (w.alloc (.cells (tbl 0) 268)) _).block _ (by simp)).trans (qkk w _)
 have G1:Hid (((w.alloc (.cells (tbl 0) 268)).alloc (.cells (tbl 0) 268)).heap[w.heap.size + 1]?=some (.cells (tbl 0) 268 (0,0))):=by
  have:=qkk (w.alloc (.cells (tbl 0) 268)) (.cells (tbl 0) 268)
  show _=_
  simpa using this
 have B0:Hid (Below w.heap.size w ((w.alloc (.cells (tbl 0) 268)).alloc (.cells (tbl 0) 268))):=qab (bel1 w _) _
 rw [←qtu]
 obtain ⟨w0,hw0⟩:∃ W,W=((w.alloc (.cells (tbl 0) 268)).alloc (.cells (tbl 0) 268)):=⟨_,rfl⟩
 rw [←hw0] at G0 G1 B0 ⊢
 clear hw0
 go_wp2_with fail
 go_loopw [4] (fun i W=>∃ k:Nat,i=.int .i64 (k:Int)∧k≤16∧Hid (W.heap[w.heap.size]?=some (.cells (tbl 0) 268 (0,0)))∧Hid (W.heap[w.heap.size + 1]?=some (.cells (tbl k) 268 (0,0)))∧Hid (Below w.heap.size w W)) (fun i _=>16 - (intOf i).toNat)
 case atStart=>exact ⟨0,rfl,by omega,G0,G1,B0⟩
 case round =>
  obtain ⟨k,rfl,hk,H0,H1,HB⟩:=hrel
  by_cases hlt:k < 16
  ·have kz:(k:Int) < 16:=by omega
   have e1:(k:Int) * (268435456:Int)=(((BitVec.ofNat 32 k <<< 28).toNat:Nat):Int):=by
    rw [qfo,BitVec.toNat_ofNat]
    omega
   obtain ⟨x,hx⟩:∃ x,BitVec.ofNat 32 k <<< 28=x:=⟨_,rfl⟩
   rw [hx] at e1
   have HX:Hid (half k=stN 4 x):=by show _=_;rw [←hx];rfl
   clear hx
   go_wp2_with fail
   obtain ⟨wo,hwo⟩:∃ wo:World,wo=wr:=⟨_,rfl⟩
   rw [←hwo] at H0 H1 HB ⊢
   clear hwo
   go_loopw [3,10] (fun v i W=>∃ (j:Nat) (y:W32),v=.int .u32 (y.toNat:Int)∧i=.int .i64 (j:Int)∧j≤4∧Hid (stN j x=y)∧W=wo) (fun _ i _=>4 - (intOf i).toNat)
   case atStart=>exact ⟨0,x,by first | rfl | rw [e1],rfl,by omega,hI rfl,rfl⟩
   case round =>
    obtain ⟨j,y,rfl,rfl,hj,HY,rfl⟩:=hrel
    clear e1
    by_cases hlt2:j < 4
    ·have jz:(j:Int) < 4:=by omega
     have HS:=qtl j x
     rw [HY.out] at HS
     have e2:(y.toNat:Int) * (2:Int) % (4294967296:Int)=(((y <<< 1).toNat:Nat):Int):=qnh y 1 2 rfl
     have hyl:=y.isLt
     by_cases hm:y.msb=true
     ·have e3:((y.toNat:Int) / 2147483648 == 1)=true:=by
       rw [BitVec.msb_eq_decide] at hm
       simp at hm
       simp
       omega
      have e4:bits .xor .u32 ((y.toNat:Int) * (2:Int) % (4294967296:Int)) (79764919:Int)=(((st y).toNat:Nat):Int):=by
       rw [e2]
       have:=qim (y <<< 1) poly
       unfold st
       rw [if_pos hm]
       exact this
      have HT:=hI HS
      clear HS hm e2 hyl
      go_wp2
      go_roundw
      case rel=>exact ⟨j + 1,st y,by first | rfl | rw [e4],by go_num,by omega,HT,trivial⟩
      case measure=>simp [intOf];omega
     ·have e3:((y.toNat:Int) / 2147483648 == 1)=false:=by
       rw [BitVec.msb_eq_decide] at hm
       simp at hm
       simp
       omega
      have HT:Hid (stN (j + 1) x=y <<< 1):=by
       show _=_
       rw [HS]
       unfold st
       rw [if_neg hm]
      clear HS hm hyl
      go_wp2
      go_roundw
      case rel=>exact ⟨j + 1,y <<< 1,by first | rfl | rw [e2],by go_num,by omega,HT,trivial⟩
      case measure=>simp [intOf];omega
    ·have jz:decide ((j:Int) < 4)=false:=decide_eq_false (by omega)
     have hj4:j=4:=by omega
     have HK:Hid (half k=y):=by show _=_;rw [HX.out,←hj4];exact HY.out
     clear hj4
     have c1:wr.cell? ⟨w.heap.size + 1,k,none⟩=some (.int .u32 0):=by
      rw [qac H1.out,tbl_at hlt]
     have f1:wr.frozen? ⟨w.heap.size + 1,k,none⟩=false:=Lib.frozen_of_heap H1.out k
     have hl:=qaa H1.out
     go_wp2
     go_roundw
     case rel =>
      refine ⟨k + 1,by go_num,by omega,hI ((Below.heap_setCell _ _ _ _ (by show _≠_;simp)).trans H0.out),?_,hI (HB.out.setCell (by show _≤_;simp) _)⟩
      show _=_
      rw [qae H1.out,←HK.out,tbl_set]
     case measure=>simp [intOf];omega
  ·have kz:decide ((k:Int) < 16)=false:=decide_eq_false (by omega)
   have hk16:k=16:=by omega
   subst hk16
   have x1:qpj wr (w.heap.size + 1) 16=true:=qtp H1.out (qei _)
   have x2:=rowAt_of H1.out
   have x3:qpj wr w.heap.size 16=true:=qtp H0.out (qei _)
   have hst:=qhj wr w.heap.size (tbl 16) x3 (qei _) (tbl_one _)
   go_wp2
   refine bodyPost_ret (results_H (t:=0) rfl rfl (setRow_heap wr w.heap.size _ (tbl 16) _ _ H0.out) (qei _)) rfl ?_
   exact ⟨rfl,⟨HB.out.os,HB.out.tape,HB.out.output,by simpa using HB.out.size,fun i hi=>(setRow_other wr w.heap.size i (tbl 16) (by omega)).trans (HB.out.block i hi)⟩⟩
theorem tbl_get {j:Nat} (h:j < 16):(tbl 16)[j]?=some (.int .u32 ((half j).toNat:Int)):=by
 simp [tbl,h]
set_option maxHeartbeats 1000000 in
theorem crcOn_any (n:W32) (s:ByteArray) (w:World) (hs:s.size≤1000000) :
 Calls Tryz.prog 154 #[.int .u32 (n.toNat:Int),.string s] w fun e w'=>e=.returned (.int .u32 ((crc n s.data.toList).toNat:Int))∧Below w.heap.size w w':=by
 go_enter Tryz.func154,Tryz.ntmps154
 go_wp2_with fail
 refine (qwo _).mono ?_
 rintro _ w1 ⟨rfl,hb1⟩
 have hst:=qin w1 w1.heap.size (tbl 0) (tbl 16) rfl (qei _) (qei _) (tbl_one _)
 rw [qtu] at hst
 have hz:=qei 16
 go_upto_region 2 with (fail)
 clear hst hz
 have G0:Hid ((w1.alloc (.cells (tbl 16) 268)).heap[w1.heap.size]?=some (.cells (tbl 16) 268 (0,0))):=qkk w1 _
 have B0:Hid (Below w.heap.size w (w1.alloc (.cells (tbl 16) 268))):=qab hb1 _
 obtain ⟨w2,hw2⟩:∃ W,W=w1.alloc (.cells (tbl 16) 268):=⟨_,rfl⟩
 obtain ⟨g,hg⟩:∃ p,p=w1.heap.size:=⟨_,rfl⟩
 rw [←hg] at G0 ⊢
 rw [←hw2] at G0 B0 ⊢
 clear hw2 hg hb1
 go_wp2_with fail
 go_loopw [0,6] (fun v i W=>∃ (k:Nat) (y:W32),v=.int .u32 (y.toNat:Int)∧i=.int .i64 (k:Int)∧k≤s.size∧Hid (crc n (s.data.toList.take k)=y)∧W=w2) (fun _ i _=>s.size - (intOf i).toNat)
 case atStart=>exact ⟨0,n,rfl,rfl,Nat.zero_le _,hI (by simp [crc]),rfl⟩
 case round =>
  obtain ⟨k,y,rfl,rfl,hk,HY,rfl⟩:=hrel
  by_cases hlt:k < s.size
  ·have kz:(k:Int) < (s.size:Int):=by omega
   have HS:=hI (qtt n s k hlt)
   rw [HY.out] at HS
   have e1:bits .xor .u32 (y.toNat:Int) ((s[k].toNat:Int) % (4294967296:Int) * (16777216:Int) % (4294967296:Int))=(((y ^^^ (qes s[k] <<< 24)).toNat:Nat):Int):=by
    rw [byte_up,qim]
   obtain ⟨x,hx⟩:∃ x,y ^^^ (qes s[k] <<< 24)=x:=⟨_,rfl⟩
   rw [hx] at e1
   have HV:Hid (stB y s[k]=stN 4 (stN 4 x)):=by show _=_;rw [←hx,←qgd 4 4];rfl
   clear hx
   obtain ⟨q,hq⟩:∃ q,x.toNat / 268435456=q:=⟨_,rfl⟩
   have lq:q < 16:=by have:=x.isLt;omega
   have dq:(x.toNat:Int) / (268435456:Int)=(q:Int):=by omega
   have mq:((q:Nat):Int) < 16:=by omega
   have cq:wr.cell? ⟨g,q,none⟩=some (.int .u32 ((half q).toNat:Int)):=by rw [qac G0.out,tbl_get lq]
   have sq:bits .xor .u32 ((x.toNat:Int) * (16:Int) % (4294967296:Int)) ((half q).toNat:Int)=(((stN 4 x).toNat:Nat):Int):=by
    rw [qnh x 4 16 rfl,qim,←hq,qpg]
   clear hq
   obtain ⟨z,hz⟩:∃ z,stN 4 x=z:=⟨_,rfl⟩
   rw [hz] at HV sq
   clear hz
   obtain ⟨p,hp⟩:∃ q,z.toNat / 268435456=q:=⟨_,rfl⟩
   have lp:p < 16:=by have:=z.isLt;omega
   have dp:(z.toNat:Int) / (268435456:Int)=(p:Int):=by omega
   have mp:((p:Nat):Int) < 16:=by omega
   have cp:wr.cell? ⟨g,p,none⟩=some (.int .u32 ((half p).toNat:Int)):=by rw [qac G0.out,tbl_get lp]
   have sp:bits .xor .u32 ((z.toNat:Int) * (16:Int) % (4294967296:Int)) ((half p).toNat:Int)=(((stN 4 z).toNat:Nat):Int):=by
    rw [qnh z 4 16 rfl,qim,←hp,qpg]
   clear hp
   have hgl:=qaa G0.out
   go_wp2
   go_roundw
   case rel=>exact ⟨k + 1,stB y s[k],by rw [HV.out],by go_num,by omega,HS,trivial⟩
   case measure=>simp [intOf];omega
  ·have kz:decide ((k:Int) < (s.size:Int))=false:=decide_eq_false (by omega)
   have HK:Hid (crc n s.data.toList=y):=by
    show _=_
    rw [←HY.out,List.take_of_length_le]
    simp
    omega
   go_wp2
   go_ret
   rw [HK.out]
   exact ⟨rfl,B0.out⟩
theorem qpo (s:ByteArray) (w:World) (hs:s.size≤1000000) :
 Calls Tryz.prog 145 #[.string s] w fun e w'=>e=.returned (.int .u32 ((sumS s).toNat:Int))∧Below w.heap.size w w':=by
 have HC:=hI (fun W=>crcOn_any 4294967295#32 s W hs)
 rw [show ((4294967295#32:W32).toNat:Int)=4294967295 by rfl] at HC
 go_enter Tryz.func145,Tryz.ntmps145
 go_wp2_with fail
 refine (HC.out _).mono ?_
 rintro _ w1 ⟨rfl,hb⟩
 go_wp2
 go_ret
 exact ⟨rfl,hb⟩
end Go.Proofs.YtjkecckndfcbjaaGreatDoor
namespace Go.Proofs.YtjkecckndfcbjaaGreatDoor
open Go.RowKit Go.Lib Crc
set_option maxRecDepth 100000
def qnk (s:ByteArray):ByteArray:=s ++ ⟨(four (sumS s)).toArray⟩
theorem rSeal_any (s:ByteArray) (w:World) (hs:s.size≤1000000) :
 Calls Tryz.prog 112 #[.string s] w fun e w'=>e=.returned (.string (qnk s))∧Below w.heap.size w w':=by
 have H1:=hI (fun W=>rOf_any s W hs)
 have H2:=hI (fun W=>qpl (sumS s) W)
 have HV:Hid (qnk s=s ++ ⟨(four (sumS s)).toArray⟩):=rfl
 have hf:(⟨(four (sumS s)).toArray⟩:ByteArray).size=4:=rfl
 obtain ⟨f,hfe⟩:∃ f:ByteArray,⟨(four (sumS s)).toArray⟩=f:=⟨_,rfl⟩
 rw [hfe] at H2 HV hf
 clear hfe
 rw [HV.out]
 go_enter Tryz.func112,Tryz.ntmps112
 go_wp2_with fail
 refine (H1.out _).mono ?_
 rintro _ _ ⟨rfl,rfl⟩
 go_wp2_with fail
 refine (H2.out _).mono ?_
 rintro _ w1 ⟨rfl,hb⟩
 go_wp2
 go_ret
 exact ⟨rfl,hb⟩
theorem seal_any (s:ByteArray) (w:World) (hs:s.size≤1000000) :
 Calls Tryz.prog 127 #[.string s] w fun e w'=>e=.returned (.string (qnk s))∧Below w.heap.size w w':=by
 have H1:=hI (fun W=>qpo s W hs)
 have H2:=hI (fun W=>four_any (sumS s) W)
 have HV:Hid (qnk s=s ++ ⟨(four (sumS s)).toArray⟩):=rfl
 have hf:(⟨(four (sumS s)).toArray⟩:ByteArray).size=4:=rfl
 obtain ⟨f,hfe⟩:∃ f:ByteArray,⟨(four (sumS s)).toArray⟩=f:=⟨_,rfl⟩
 rw [hfe] at H2 HV hf
 clear hfe
 rw [HV.out]
 go_enter Tryz.func127,Tryz.ntmps127
 go_wp2_with fail
 refine (H1.out _).mono ?_
 rintro _ w1 ⟨rfl,hb1⟩
 go_wp2_with fail
 refine (H2.out _).mono ?_
 rintro _ w2 ⟨rfl,hb2⟩
 go_wp2
 go_ret
 exact ⟨rfl,qad hb1 hb2⟩
def unsS (s:ByteArray):ByteArray×Nat:=if s.size < 4 then (⟨#[]⟩,4) else if sumS s=0#32 then (s.extract 0 (s.size - 4),0) else (⟨#[]⟩,7)
theorem qwp (s:ByteArray) (w:World) (hs:s.size≤1000000) :
 Calls Tryz.prog 146 #[.string s] w fun e w'=>e=.returned (.tuple #[.string (unsS s).1,.int .i64 ((unsS s).2:Int)])∧Below w.heap.size w w':=by
 have H1:=hI (fun W=>qpo s W hs)
 by_cases h4:s.size < 4
 ·have kz:(s.size:Int) - 4 < 0:=by omega
  have HU:Hid (unsS s=(⟨#[]⟩,4)):=by show _=_;unfold unsS;rw [if_pos h4]
  rw [HU.out]
  clear h4 hs
  go_enter Tryz.func146,Tryz.ntmps146
  go_wp2
  refine bodyPost_ret (v:=.tuple #[.string ⟨#[]⟩,.int .i64 4]) (by simp [results,Tryz.results146,go_sem]) rfl ⟨rfl,Below.refl _ _⟩
 ·have kz:decide ((s.size:Int) - 4 < 0)=false:=decide_eq_false (by omega)
  have k1:((s.size:Int) - 4).toNat=s.size - 4:=by omega
  have k2:s.size - 4≤s.size:=by omega
  have k3:(0:Int)≤(s.size:Int) - 4:=by omega
  have k4:(s.size:Int) - 4≤(s.size:Int):=by omega
  by_cases h0:sumS s=0#32
  ·have HU:Hid (unsS s=(s.extract 0 (s.size - 4),0)):=by show _=_;unfold unsS;rw [if_neg h4,if_pos h0]
   rw [HU.out]
   rw [h0] at H1
   clear h0
   go_enter Tryz.func146,Tryz.ntmps146
   go_wp2_with fail
   refine (H1.out _).mono ?_
   rintro _ w1 ⟨rfl,hb1⟩
   have kx:(((0#32:W32).toNat:Int) != 0)=false:=by decide
   go_wp2
   refine bodyPost_ret (v:=.tuple #[.string (s.extract 0 (s.size - 4)),.int .i64 0]) (by simp [results,Tryz.results146,go_sem]) rfl ⟨rfl,hb1⟩
  ·have HU:Hid (unsS s=(⟨#[]⟩,7)):=by show _=_;unfold unsS;rw [if_neg h4,if_neg h0]
   rw [HU.out]
   have kx:(((sumS s).toNat:Int) != 0)=true:=by
    have:(sumS s).toNat≠0:=fun e=>h0 (BitVec.eq_of_toNat_eq e)
    simp
    omega
   clear h0
   go_enter Tryz.func146,Tryz.ntmps146
   go_wp2_with fail
   refine (H1.out _).mono ?_
   rintro _ w1 ⟨rfl,hb1⟩
   go_wp2
   refine bodyPost_ret (v:=.tuple #[.string ⟨#[]⟩,.int .i64 7]) (by simp [results,Tryz.results146,go_sem]) rfl ⟨rfl,hb1⟩
end Go.Proofs.YtjkecckndfcbjaaGreatDoor
namespace Go.Proofs.YtjkecckndfcbjaaGreatDoor
open Go.RowKit Go.Lib Crc Nb
set_option maxRecDepth 100000
def gfB:FR→ByteArray
 | .ok b _=>⟨b.toArray⟩
 | .no _=>⟨#[]⟩
def gfT (p:Nat):FR→Nat
 | .ok _ k=>p + k
 | .no _=>0
def gfE:FR→Nat
 | .ok _ _=>0
 | .no e=>e
def gfR (s:ByteArray) (p:Nat):FR:=frL (s.data.toList.drop p)
def frW (b:ByteArray):ByteArray:=⟨(qak b.data.toList).toArray⟩
theorem qgl (s:ByteArray) (a b:Nat):(s.extract a b).data.toList=(s.data.toList.drop a).take (b - a):=qev s a b
theorem qpp (b:ByteArray):(⟨b.data.toList.toArray⟩:ByteArray)=b:=by cases b;simp
theorem gfR_no {s:ByteArray} {p c:Nat} (h:getL (s.data.toList.drop p)=.no c):gfR s p=.no c:=by unfold gfR frL;rw [h]
theorem gfR_big {s:ByteArray} {p n k:Nat} (h:getL (s.data.toList.drop p)=.ok n k) (hb:20000 < n):gfR s p=.no 3:=by unfold gfR frL;rw [h];simp only;rw [if_pos hb]
theorem qpq {s:ByteArray} {p n k:Nat} (h:getL (s.data.toList.drop p)=.ok n k) (hb:¬ 20000 < n) (hl:s.size < p + k + n + 4) (hp:p≤s.size):gfR s p=.no 4:=by
 have e:s.data.toList.length=s.size:=by simp
 unfold gfR frL
 rw [h]
 simp only
 rw [if_neg hb,if_pos (by rw [List.length_drop];omega)]
theorem qtv {s:ByteArray} {p n k:Nat} (h:getL (s.data.toList.drop p)=.ok n k) (hb:¬ 20000 < n) (hl:p + k + n + 4≤s.size):gfR s p=if sumS (s.extract p (p + k + n + 4))=0#32 then .ok (s.extract (p + k) (p + k + n)).data.toList (k + n + 4) else .no 7:=by
 have e:s.data.toList.length=s.size:=by simp
 have e1:(s.extract p (p + k + n + 4)).data.toList=(s.data.toList.drop p).take (k + n + 4):=by rw [qgl];congr 1;omega
 have e2:(s.extract (p + k) (p + k + n)).data.toList=((s.data.toList.drop p).drop k).take n:=by rw [qgl,List.drop_drop];congr 1;omega
 unfold gfR frL sumS
 rw [h,e1,e2]
 simp only
 rw [if_neg hb,if_neg (by rw [List.length_drop];omega)]
theorem fGet_any (s:ByteArray) (p:Nat) (w:World) (hp:p≤s.size) (hs:s.size≤1000000) :
 Calls Tryz.prog 131 #[.string s,.int .i64 p] w fun e w'=>e=.returned (.tuple #[.string (gfB (gfR s p)),.int .i64 (gfT p (gfR s p):Int),.int .i64 (gfE (gfR s p):Int)])∧Below w.heap.size w w':=by
 have HG:=hI (qrt s p w hp hs)
 have elen:s.data.toList.length=s.size:=by simp
 cases hg:getL (s.data.toList.drop p) with
 | no c =>
   rw [hg] at HG
   rw [gfR_no hg]
   have hc:=qdg hg
   have hc':((c:Int) != 0)=true:=by simp;omega
   simp only [gN,gT,gE,gfB,gfT,gfE] at HG ⊢
   clear hp hs hg hc elen
   go_enter Tryz.func131,Tryz.ntmps131
   go_wp2_with (go_at_call 133;refine HG.out.mono ?_;rintro _ _ ⟨rfl,rfl⟩)
   refine bodyPost_ret (v:=.tuple #[.string ⟨#[]⟩,.int .i64 0,.int .i64 (c:Int)]) (by simp [results,Tryz.results131,go_sem]) rfl ⟨rfl,Below.refl _ _⟩
 | ok n k =>
   rw [hg] at HG
   obtain ⟨-,-,g3,g4⟩:=qcn hg
   rw [List.length_drop] at g3
   simp only [gN,gT,gE] at HG
   obtain ⟨fr,hfr⟩:∃ x,p + k=x:=⟨_,rfl⟩
   rw [hfr] at HG
   have hfs:fr≤s.size:=by omega
   by_cases hb:20000 < n
   ·have hb':(20000:Int) < (n:Int):=by omega
    rw [gfR_big hg hb]
    simp only [gfB,gfT,gfE]
    clear hp hs hg elen g3 g4 hb hfr
    go_enter Tryz.func131,Tryz.ntmps131
    go_wp2_with (go_at_call 133;refine HG.out.mono ?_;rintro _ _ ⟨rfl,rfl⟩)
    refine bodyPost_ret (v:=.tuple #[.string ⟨#[]⟩,.int .i64 0,.int .i64 3]) (by simp [results,Tryz.results131,go_sem]) rfl ⟨rfl,Below.refl _ _⟩
   ·have hb':decide ((20000:Int) < (n:Int))=false:=decide_eq_false (by omega)
    by_cases hl:s.size < p + k + n + 4
    ·have hl':(s.size:Int) - (fr:Int) < (n:Int) + 4:=by omega
     rw [qpq hg hb hl hp]
     simp only [gfB,gfT,gfE]
     clear hp hg elen g4 hfr g3
     go_enter Tryz.func131,Tryz.ntmps131
     go_wp2_with (go_at_call 133;refine HG.out.mono ?_;rintro _ _ ⟨rfl,rfl⟩)
     refine bodyPost_ret (v:=.tuple #[.string ⟨#[]⟩,.int .i64 0,.int .i64 4]) (by simp [results,Tryz.results131,go_sem]) rfl ⟨rfl,Below.refl _ _⟩
    ·have hl':decide ((s.size:Int) - (fr:Int) < (n:Int) + 4)=false:=decide_eq_false (by omega)
     rw [qtv hg hb (by omega)]
     obtain ⟨tt,hto⟩:∃ x,p + k + n + 4=x:=⟨_,rfl⟩
     obtain ⟨x,hx⟩:∃ x:ByteArray,s.extract p tt=x:=⟨_,rfl⟩
     have hxs:x.size=k + n + 4:=by rw [←hx,ByteArray.size_extract];omega
     have HU:=hI (fun W=>qwp x W (by omega))
     have hfr2:(fr:Int) + (n:Int) + 4=(tt:Int):=by omega
     have h1:(tt:Int)≤(s.size:Int):=by omega
     have h2:(p:Int)≤(tt:Int):=by omega
     have h3:(fr:Int) - (p:Int)=(k:Int):=by omega
     have HX:=hI hx
     rw [hto,hx]
     by_cases h0:sumS x=0#32
     ·have hun:unsS x=(x.extract 0 (x.size - 4),0):=by unfold unsS;rw [if_neg (by omega),if_pos h0]
      rw [hun] at HU
      rw [if_pos h0]
      obtain ⟨y,hy⟩:∃ y:ByteArray,x.extract 0 (x.size - 4)=y:=⟨_,rfl⟩
      have hys:y.size=k + n:=by rw [←hy,ByteArray.size_extract];omega
      rw [hy] at HU
      have h4:(k:Int)≤(y.size:Int):=by omega
      have HV:Hid (y.extract k (k + n)=s.extract (p + k) (p + k + n)):=by
       show _=_
       rw [←hys]
       have e1:(y.extract k y.size).data.toList=(s.extract (p + k) (p + k + n)).data.toList:=by
        rw [qgl,qgl,←hy,qgl,←hx,qgl,List.drop_zero,List.take_take,List.drop_take,List.take_take,List.drop_drop]
        congr 1
        rw [hx,hy,hys,hxs]
        omega
       rw [←qpp (y.extract k y.size),e1,qpp]
      simp only [gfB,gfT,gfE]
      have HT:Hid (p + (k + n + 4)=tt):=by show _=_;omega
      rw [HT.out,qpp]
      clear hp hg elen g4 hfr g3 hto hx hxs hun hy h0 hl
      go_enter Tryz.func131,Tryz.ntmps131
      go_wp2_with (first | (go_at_call 133;refine HG.out.mono ?_;rintro _ _ ⟨rfl,rfl⟩) | (go_at_call 146;rw [HX.out];refine (HU.out _).mono ?_;rintro _ w1 ⟨rfl,hb1⟩;have HB1:=hI hb1;clear hb1))
      refine bodyPost_ret (v:=.tuple #[.string (y.extract k (k + n)),.int .i64 (tt:Int),.int .i64 0]) (by simp [results,Tryz.results131,go_sem]) rfl ⟨by rw [HV.out];rfl,HB1.out⟩
     ·have hun:unsS x=(⟨#[]⟩,7):=by unfold unsS;rw [if_neg (by omega),if_neg h0]
      rw [hun] at HU
      rw [if_neg h0]
      simp only [gfB,gfT,gfE]
      clear hp hg elen g4 hfr g3 hto hx hxs hun h0 hl
      go_enter Tryz.func131,Tryz.ntmps131
      go_wp2_with (first | (go_at_call 133;refine HG.out.mono ?_;rintro _ _ ⟨rfl,rfl⟩) | (go_at_call 146;rw [HX.out];refine (HU.out _).mono ?_;rintro _ w1 ⟨rfl,hb1⟩;have HB1:=hI hb1;clear hb1))
      refine bodyPost_ret (v:=.tuple #[.string ⟨#[]⟩,.int .i64 0,.int .i64 7]) (by simp [results,Tryz.results131,go_sem]) rfl ⟨rfl,HB1.out⟩
theorem fSize_any (b:ByteArray) (w:World) (h:b.size≤20000) :
 Calls Tryz.prog 67 #[.string b] w fun e w'=>e=.returned (.int .i64 ((qak b.data.toList).length:Int))∧w=w':=by
 have HS:=hI (qtj b.size w (by omega))
 have e:b.data.toList.length=b.size:=by simp
 have HL:Hid (((numB b.size).length:Int) + (b.size:Int) + 4=((qak b.data.toList).length:Int)):=by show _=_;rw [qdv,e];omega
 have h1:(b.size:Int)≤20000:=by omega
 have h2:=qax b.size (by omega)
 generalize (numB b.size).length=z at HS HL h2
 clear e h
 go_enter Tryz.func67,Tryz.ntmps67
 go_wp2_with (go_at_call 103;refine HS.out.mono ?_;rintro _ _ ⟨rfl,rfl⟩)
 go_ret
 exact ⟨by rw [←HL.out];rfl,rfl⟩
theorem qkl (b:ByteArray):qnk ((⟨(numB b.size).toArray⟩:ByteArray) ++ b)=frW b:=by
 have e:b.data.toList.length=b.size:=by simp
 have e1:((⟨(numB b.size).toArray⟩:ByteArray) ++ b).data.toList=numB b.size ++ b.data.toList:=by simp
 have e2:(qnk ((⟨(numB b.size).toArray⟩:ByteArray) ++ b)).data.toList=qak b.data.toList:=by
  unfold qnk qak sumS
  rw [e,e1,ByteArray.data_append,Array.toList_append,e1]
 unfold frW
 rw [←e2,qpp]
theorem fPut_any (b:ByteArray) (w:World) (h:b.size≤20000) :
 Calls Tryz.prog 88 #[.string b] w fun e w'=>e=.returned (.tuple #[.string (frW b),.int .i64 0])∧Below w.heap.size w w':=by
 have HP:=hI (qrx b.size w (by omega))
 have h1:(b.size:Int)≤20000:=by omega
 have h2:=qax b.size (by omega)
 have HZ:=hI (qkl b)
 obtain ⟨n,hn⟩:∃ n:ByteArray,⟨(numB b.size).toArray⟩=n:=⟨_,rfl⟩
 have hns:n.size≤9:=by rw [←hn,qaz];exact h2
 rw [hn] at HP HZ
 have HS:=hI (fun W=>seal_any (n ++ b) W (by rw [ByteArray.size_append];omega))
 clear h h2 hn
 go_enter Tryz.func88,Tryz.ntmps88
 go_wp2_with (first | (go_at_call 126;refine HP.out.mono ?_;rintro _ w1 ⟨rfl,hb1⟩;have HB1:=hI hb1;clear hb1) | (go_at_call 127;refine (HS.out _).mono ?_;rintro _ w2 ⟨rfl,hb2⟩;have HB2:=hI hb2;clear hb2))
 refine bodyPost_ret (v:=.tuple #[.string (qnk (n ++ b)),.int .i64 0]) (by simp [results,Tryz.results88,go_sem]) rfl ⟨by rw [HZ.out],qad HB1.out HB2.out⟩
end Go.Proofs.YtjkecckndfcbjaaGreatDoor
