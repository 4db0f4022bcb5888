/- Texts that the law leans on. -/
import Derived.Test.YtjkecckndfcbjaaGreatDoorPCrcC
import Derived.Test.YtjkecckndfcbjaaGreatDoorPAnyE
namespace Go.Proofs.YtjkecckndfcbjaaGreatDoor
open Go.RowKit Go.Lib Crc
set_option maxRecDepth 100000
set_option maxHeartbeats 1000000 in
theorem qrz (s:ByteArray) (w:World) (hs:s.size≤1000000) :
 Calls Tryz.prog 121 #[.string s] w fun e w'=>e=.returned (.tuple #[.string (unsS s).1,.int .i64 ((unsS s).2:Int)])∧Below w.heap.size w w':=by
 by_cases h4:s.size < 4
 ·have kz:(s.size:Int) < 4:=by omega
  have HU:Hid (unsS s=(⟨#[]⟩,4)):=by show _=_;unfold unsS;rw [if_pos h4]
  rw [HU.out]
  clear h4 hs
  go_enter Tryz.func121,Tryz.ntmps121
  go_wp2
  refine bodyPost_ret (v:=.tuple #[.string ⟨#[]⟩,.int .i64 4]) (by simp [results,Tryz.results121,go_sem]) rfl ⟨rfl,Below.refl _ _⟩
 ·have kz:decide ((s.size:Int) < 4)=false:=decide_eq_false (by omega)
  have k1:((s.size:Int) - 4).toNat=s.size - 4:=by omega
  have k2:s.size - 4≤s.size:=by omega
  have k3:(0:Int)≤(s.size:Int) - 4:=by omega
  have k4:(s.size:Int) - 4≤(s.size:Int):=by omega
  obtain ⟨x,hx⟩:∃ x:ByteArray,s.extract 0 (s.size - 4)=x:=⟨_,rfl⟩
  have hxs:x.size≤1000000:=by rw [←hx,ByteArray.size_extract];omega
  have H1:=hI (fun W=>rOf_any x W hxs)
  have H2:=hI (fun W=>qpl (sumS x) W)
  have HX:=hI hx
  have k5:(4:Int)≤(s.size:Int):=by omega
  obtain ⟨y,hy⟩:∃ y:ByteArray,s.extract (s.size - 4) s.size=y:=⟨_,rfl⟩
  obtain ⟨f,hf⟩:∃ f:ByteArray,⟨(four (sumS x)).toArray⟩=f:=⟨_,rfl⟩
  rw [hf] at H2
  have HEQ:Hid ((f=y)↔sumS s=0#32):=by
   show _↔_
   have e1:s.data.toList=x.data.toList ++ y.data.toList:=by
    rw [←hx,←hy]
    simp only [ByteArray.data_extract,Array.toList_extract,List.extract_eq_take_drop,Nat.sub_zero,List.drop_zero]
    have h1:s.data.toList.length=s.size:=by simp
    rw [show s.size - (s.size - 4)=4 by omega,List.take_of_length_le (l:=s.data.toList.drop (s.size - 4)) (by rw [List.length_drop];omega),List.take_append_drop]
   have e2:y.data.toList.length=4:=by
    rw [←hy]
    simp [ByteArray.data_extract]
    have h1:s.data.size=s.size:=rfl
    omega
   have e3:=qna 4294967295#32 x.data.toList y.data.toList e2
   rw [←e1] at e3
   have e4:sumS s=0#32↔y.data.toList=four (sumS x):=e3
   rw [e4,←hf]
   constructor
   ·intro h;rw [←h]
   ·intro h;rw [←h]
  have HF:=hI hf
  have HY:=hI hy
  clear hf hxs
  go_enter Tryz.func121,Tryz.ntmps121
  go_wp2_with fail
  refine qgy (S:=fun _=>True) (by kernel_rfl) ?_
  have hS:True:=trivial
  refine tkF 11 0 rfl rfl hS ?_
  simp only [Act.put,sA,s0,s1]
  refine tkF 12 1 rfl rfl hS ?_
  simp only [Act.put,sA,s0,s1]
  refine tkF 13 2 rfl rfl hS ?_
  simp only [Act.put,sA,s0,s1]
  refine tkF 16 5 rfl rfl hS ?_
  simp only [Act.put,sA,s0,s1]
  refine tkF 17 6 rfl rfl hS ?_
  simp only [Act.put,sA,s0,s1]
  refine tkF 18 7 rfl rfl hS ?_
  simp only [Act.put,sA,s0,s1]
  refine rdy1 3 rfl (fun K hK=>?_)
  go_simp
  refine (H1.out _).mono ?_
  rintro _ _ ⟨rfl,rfl⟩
  refine hK.out _ _ trivial (fun _=>?_)
  clear hK K
  refine rdy1 4 rfl (fun K hK=>?_)
  go_simp
  refine (H2.out _).mono ?_
  rintro _ w1 ⟨rfl,hb1⟩
  refine hK.out _ _ trivial (fun _=>?_)
  clear hK K
  refine tkF 19 8 rfl rfl hS ?_
  simp only [Act.put,sA,s0,s1]
  refine qgx (by kernel_rfl) ?_ _
  have HTL:Hid (f.toList=y.toList↔f=y):=by
   show _↔_
   constructor
   ·intro h
    rw [Lib.toList_data,Lib.toList_data] at h
    obtain ⟨f⟩:=f
    obtain ⟨y⟩:=y
    exact congrArg _ (Array.toList_inj.1 h)
   ·intro h;rw [h]
  obtain ⟨c,hc⟩:∃ c:Bool,(f.toList == y.toList)=c:=⟨_,rfl⟩
  have HC:=hI hc
  rw [hc]
  clear hc
  cases c
  ·have h0:¬ sumS s=0#32:=fun h=>by
    have:=HC.out
    rw [HTL.out.2 (HEQ.out.2 h)] at this
    simp at this
   have HU:Hid (unsS s=(⟨#[]⟩,7)):=by show _=_;unfold unsS;rw [if_neg h4,if_neg h0]
   clear h0
   go_wp2
   refine bodyPost_ret (v:=.tuple #[.string ⟨#[]⟩,.int .i64 7]) (by simp [results,Tryz.results121,go_sem]) rfl ⟨by rw [HU.out];rfl,(Below.refl w.heap.size w).drew.trans hb1⟩
  ·have h0:sumS s=0#32:=HEQ.out.1 (HTL.out.1 (eq_of_beq HC.out))
   have HU:Hid (unsS s=(x,0)):=by show _=_;unfold unsS;rw [if_neg h4,if_pos h0,HX.out]
   clear h0
   go_wp2
   refine bodyPost_ret (v:=.tuple #[.string x,.int .i64 0]) (by simp [results,Tryz.results121,go_sem]) rfl ⟨by rw [HU.out];rfl,(Below.refl w.heap.size w).drew.trans hb1⟩
end Go.Proofs.YtjkecckndfcbjaaGreatDoor
