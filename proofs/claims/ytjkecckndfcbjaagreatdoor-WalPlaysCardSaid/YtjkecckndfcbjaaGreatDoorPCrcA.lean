/- Texts that the law leans on. -/
import Derived.Deep.CutRange
import Derived.Test.YtjkecckndfcbjaaGreatDoorPBase
import Derived.Test.YtjkecckndfcbjaaGreatDoorPRead
import Derived.Laws.IdiomStrings
namespace Go.Proofs.YtjkecckndfcbjaaGreatDoor
open Go.RowKit Go.Lib Crc
set_option maxRecDepth 100000
theorem wrap_u32 (n:Int):IntKind.u32.wrap n=n % 4294967296:=by simp [IntKind.wrap,IntKind.bits,IntKind.signed]
theorem qim (a b:W32):bits .xor .u32 (a.toNat:Int) (b.toNat:Int)=((a ^^^ b).toNat:Int):=by
 have hx:=(a ^^^ b).isLt
 have h1:∀ c:W32,BitVec.ofInt 32 (c.toNat:Int)=c:=fun c=>by
  apply BitVec.eq_of_toNat_eq
  rw [BitVec.ofInt_natCast,BitVec.toNat_ofNat];exact Nat.mod_eq_of_lt c.isLt
 show IntKind.u32.wrap ((BitVec.ofInt 32 (a.toNat:Int) ^^^ BitVec.ofInt 32 (b.toNat:Int)).toNat:Int)=_
 rw [h1,h1,wrap_u32]
 omega
theorem qnh (n:W32) (k:Nat) (m:Int) (hm:m=((2 ^ k:Nat):Int)):(n.toNat:Int) * m % (4294967296:Int)=(((n <<< k).toNat:Nat):Int):=by
 rw [qfo,hm]
 omega
theorem byte_up (b:UInt8):(b.toNat:Int) % (4294967296:Int) * (16777216:Int) % (4294967296:Int)=(((qes b <<< 24).toNat:Nat):Int):=by
 have:=UInt8.toNat_lt b
 rw [qfo,qfe]
 omega
set_option maxHeartbeats 1000000 in
theorem rStep_any (n:W32) (b:UInt8) (w:World) :
 Calls Tryz.prog 159 #[.int .u32 (n.toNat:Int),.int .u8 (b.toNat:Int)] w fun e w'=>e=.returned (.int .u32 ((stB n b).toNat:Int))∧w'=w:=by
 have e1:bits .xor .u32 (n.toNat:Int) ((b.toNat:Int) % (4294967296:Int) * (16777216:Int) % (4294967296:Int))=((n ^^^ (qes b <<< 24)).toNat:Int):=by
  rw [byte_up,qim]
 obtain ⟨x,hx⟩:∃ x,n ^^^ (qes b <<< 24)=x:=⟨_,rfl⟩
 rw [hx] at e1
 have HV:Hid (stB n b=stN 8 x):=by show _=_;rw [←hx];rfl
 rw [HV.out]
 clear hx
 go_enter Tryz.func159,Tryz.ntmps159
 go_wp2_with fail
 clear e1
 go_loopw [0,5] (fun v i W=>∃ (k:Nat) (y:W32),v=.int .u32 (y.toNat:Int)∧i=.int .i64 (k:Int)∧k≤8∧Hid (stN k x=y)∧W=w) (fun _ i _=>8 - (intOf i).toNat)
 case atStart=>exact ⟨0,x,rfl,rfl,by omega,hI rfl,rfl⟩
 case round =>
  obtain ⟨k,y,rfl,rfl,hk,HY,rfl⟩:=hrel
  by_cases hlt:k < 8
  ·have kz:(k:Int) < 8:=by omega
   have HS:=qtl k x
   rw [HY.out] at HS
   have e2:(y.toNat:Int) * (2:Int) % (4294967296:Int)=(((y <<< 1).toNat:Nat):Int):=qnh y 1 2 rfl
   by_cases hm:y.msb=true
   ·have e3:(2147483648:Int)≤(y.toNat:Int):=by
     rw [BitVec.msb_eq_decide] at hm
     simp at hm
     omega
    have e4:bits .xor .u32 ((y.toNat:Int) * (2:Int) % (4294967296:Int)) (79764919:Int)=(((st y).toNat:Nat):Int):=by
     rw [e2]
     have:=qim (y <<< 1) poly
     unfold st
     rw [if_pos hm]
     exact this
    have HT:=hI HS
    clear HS hm e2
    go_wp2
    go_roundw
    case rel=>exact ⟨k + 1,st y,by first | rfl | rw [e4],by go_num,by omega,HT,trivial⟩
    case measure=>simp [intOf];omega
   ·have e3:decide ((2147483648:Int)≤(y.toNat:Int))=false:=by
     rw [BitVec.msb_eq_decide] at hm
     simp at hm
     exact decide_eq_false (by omega)
    have HT:Hid (stN (k + 1) x=y <<< 1):=by
     show _=_
     rw [HS]
     unfold st
     rw [if_neg hm]
    clear HS hm
    go_wp2
    go_roundw
    case rel=>exact ⟨k + 1,y <<< 1,by first | rfl | rw [e2],by go_num,by omega,HT,trivial⟩
    case measure=>simp [intOf];omega
  ·have kz:decide ((k:Int) < 8)=false:=decide_eq_false (by omega)
   have hk8:k=8:=by omega
   have HK:Hid (stN 8 x=y):=by show _=_;rw [←hk8];exact HY.out
   clear hk8 hlt
   go_wp2
   go_ret
   rw [HK.out]
   exact ⟨rfl,rfl⟩
theorem qtt (n:W32) (s:ByteArray) (k:Nat) (h:k < s.size):crc n (s.data.toList.take (k + 1))=stB (crc n (s.data.toList.take k)) s[k]:=by
 have e:s.data.toList.take (k + 1)=s.data.toList.take k ++ [s[k]]:=by
  rw [List.take_succ_eq_append_getElem (by simpa using h)]
  simp [ByteArray.getElem_eq_getElem_data]
 rw [e,qma]
 rfl
set_option maxHeartbeats 1000000 in
theorem rOn_any (n:W32) (s:ByteArray) (w:World) (hs:s.size≤1000000) :
 Calls Tryz.prog 152 #[.int .u32 (n.toNat:Int),.string s] w fun e w'=>e=.returned (.int .u32 ((crc n s.data.toList).toNat:Int))∧w'=w:=by
 go_enter Tryz.func152,Tryz.ntmps152
 go_wp2_with fail
 go_loopw [0,5] (fun v i W=>∃ (k:Nat) (y:W32),v=.int .u32 (y.toNat:Int)∧i=.int .i64 (k:Int)∧k≤s.size∧Hid (crc n (s.data.toList.take k)=y)∧W=w) (fun _ i _=>s.size - (intOf i).toNat)
 case atStart=>exact ⟨0,n,rfl,rfl,Nat.zero_le _,hI (by simp [crc]),rfl⟩
 case round =>
  obtain ⟨k,y,rfl,rfl,hk,HY,rfl⟩:=hrel
  by_cases hlt:k < s.size
  ·have kz:(k:Int) < (s.size:Int):=by omega
   have HS:=hI (qtt n s k hlt)
   rw [HY.out] at HS
   have HC:=hI (rStep_any y s[k] wr)
   go_wp2_with fail
   refine HC.out.mono ?_
   rintro _ _ ⟨rfl,rfl⟩
   go_wp2
   go_roundw
   case rel=>exact ⟨k + 1,stB y s[k],rfl,by go_num,by omega,HS,trivial⟩
   case measure=>simp [intOf];omega
  ·have kz:decide ((k:Int) < (s.size:Int))=false:=decide_eq_false (by omega)
   have HK:Hid (crc n s.data.toList=y):=by
    show _=_
    rw [←HY.out,List.take_of_length_le]
    simp
    omega
   go_wp2
   go_ret
   rw [HK.out]
   exact ⟨rfl,rfl⟩
def sumS (s:ByteArray):W32:=crc 4294967295#32 s.data.toList
theorem rOf_any (s:ByteArray) (w:World) (hs:s.size≤1000000) :
 Calls Tryz.prog 140 #[.string s] w fun e w'=>e=.returned (.int .u32 ((sumS s).toNat:Int))∧w'=w:=by
 have HC:=hI (rOn_any 4294967295#32 s w hs)
 rw [show ((4294967295#32:W32).toNat:Int)=4294967295 by rfl] at HC
 go_enter Tryz.func140,Tryz.ntmps140
 go_wp2_with fail
 refine HC.out.mono ?_
 rintro _ _ ⟨rfl,rfl⟩
 go_wp2
 go_ret
 exact ⟨rfl,rfl⟩
end Go.Proofs.YtjkecckndfcbjaaGreatDoor
namespace Go.Proofs.YtjkecckndfcbjaaGreatDoor
open Go.RowKit Go.Lib Crc
set_option maxRecDepth 100000
theorem four_nat (n:W32):(four n).map (fun b=>(b.toNat:Int))=[(n.toNat:Int) / 16777216,(n.toNat:Int) / 65536 % 256,(n.toNat:Int) / 256 % 256,(n.toNat:Int) % 256]:=by
 have:=n.isLt
 unfold four
 simp only [List.map_cons,List.map_nil,UInt8.toNat_ofNat',List.cons.injEq,and_true]
 omega
theorem qpk (n:W32) (W:World):(convert 210 9 (.slice (some ⟨W.heap.size,0,none⟩) 4 4)).run Tryz.prog (W.alloc (.cells #[.int .u8 ((n.toNat:Int) / 16777216),.int .u8 ((n.toNat:Int) / 65536 % 256),.int .u8 ((n.toNat:Int) / 256 % 256),.int .u8 ((n.toNat:Int) % 256)] 5))=.ok (.string ⟨(four n).toArray⟩) (W.alloc (.cells #[.int .u8 ((n.toNat:Int) / 16777216),.int .u8 ((n.toNat:Int) / 65536 % 256),.int .u8 ((n.toNat:Int) / 256 % 256),.int .u8 ((n.toNat:Int) % 256)] 5)):=by
 have hf:=four_nat n
 obtain ⟨a,b,c,d,hl⟩:∃ a b c d,four n=[a,b,c,d]:=⟨_,_,_,_,rfl⟩
 rw [hl] at hf ⊢
 simp only [List.map_cons,List.map_nil,List.cons.injEq,and_true] at hf
 obtain ⟨h1,h2,h3,h4⟩:=hf
 rw [←h1,←h2,←h3,←h4]
 have:=run_convert_bytes_back (P:=Tryz.prog) (W.alloc (.cells #[.int .u8 (a.toNat:Int),.int .u8 (b.toNat:Int),.int .u8 (c.toNat:Int),.int .u8 (d.toNat:Int)] 5)) 210 9 5 ⟨W.heap.size,0,none⟩ 4 [a,b,c,d] Tryz.underlying210 Tryz.underlying5 Tryz.underlying9 (by
  intro j hj
  match j,hj with
  | 0,_=>simp [Addr.add]
  | 1,_=>simp [Addr.add]
  | 2,_=>simp [Addr.add]
  | 3,_=>simp [Addr.add])
 exact this
set_option maxHeartbeats 1000000 in
theorem qpl (n:W32) (w:World) :
 Calls Tryz.prog 139 #[.int .u32 (n.toNat:Int)] w fun e w'=>e=.returned (.string ⟨(four n).toArray⟩)∧Below w.heap.size w w':=by
 have hc:=qpk n w
 go_enter Tryz.func139,Tryz.ntmps139
 go_wp2
 go_ret
 exact ⟨rfl,bel1 w _⟩
set_option maxHeartbeats 1000000 in
theorem four_any (n:W32) (w:World) :
 Calls Tryz.prog 144 #[.int .u32 (n.toNat:Int)] w fun e w'=>e=.returned (.string ⟨(four n).toArray⟩)∧Below w.heap.size w w':=by
 have hc:=qpk n w
 go_enter Tryz.func144,Tryz.ntmps144
 go_wp2
 go_ret
 exact ⟨rfl,bel1 w _⟩
end Go.Proofs.YtjkecckndfcbjaaGreatDoor
