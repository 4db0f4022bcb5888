/- Texts that the law leans on. -/
import Derived.Laws.BitsAllLaws
import Derived.Laws.BitsLemmas
import Derived.IntWalk
import Derived.Laws.IdiomStrings
import Derived.Laws.MakeOwn
import Derived.Test.YtjkecckndfcbjaaGreatDoorKBase
import Derived.Test.YtjkecckndfcbjaaGreatDoorShelf
namespace Go.Proofs.YtjkecckndfcbjaaGreatDoor
open Go.RowKit Nb
def qhp (l:List UInt8):Nat:=if l.head?=some 0∨val l < 128 then 0 else if 9223372036854775807 < val l then 0 else val l
def qdt (l:List UInt8):Nat:=if l.head?=some 0∨val l < 128 then 5 else if 9223372036854775807 < val l then 3 else 0
theorem take_next (s:ByteArray) (k:Nat) (h:k < s.size):s.data.toList.take (k + 1)=s.data.toList.take k ++ [s[k]]:=by
 rw [List.take_succ_eq_append_getElem (by simpa using h)];rfl
theorem val_take (s:ByteArray) (k:Nat) (h:k < s.size):val (s.data.toList.take (k + 1))=256 * val (s.data.toList.take k) + s[k].toNat:=by
 rw [take_next s k h,qhz]
theorem qtn (s:ByteArray) (k:Nat) (h:k≤7):val (s.data.toList.take k) < 72057594037927936:=by
 have h1:=val_lt (s.data.toList.take k)
 have h2:(s.data.toList.take k).length≤7:=Nat.le_trans (List.length_take_le _ _) h
 have h3:256 ^ (s.data.toList.take k).length≤256 ^ 7:=Nat.pow_le_pow_right (by omega) h2
 omega
theorem or_byte (x:Nat) (b:UInt8) (hx:x < 72057594037927936):bits .or .u64 ((x:Int) * 256) (IntKind.u64.wrap (b.toNat:Int))=((256 * x + b.toNat:Nat):Int):=by
 have hb:=b.toNat_lt
 have e1:IntKind.u64.wrap (b.toNat:Int)=(b.toNat:Int):=by rw [IntKind.wrap_u64];omega
 have e2:(x:Int) * 256=((256 * x:Nat):Int):=by omega
 rw [e1,e2,u64_or_nat _ _ (by omega) (by omega)]
 have e3:=Nat.two_pow_add_eq_or_of_lt (b:=b.toNat) (i:=8) (by omega) x
 rw [←e3]
theorem head_of (s:ByteArray) (h:0 < s.size):s.data.toList.head?=some s[0]:=by
 rw [List.head?_eq_getElem?,List.getElem?_eq_getElem (by simpa using h)];rfl
theorem qpa {k k':IntKind} {a b c d:Int} (h:a=b) (h':c=d):Ending.returned (.tuple #[.int k a,.int k' c])=.returned (.tuple #[.int k b,.int k' d]):=by rw [h,h']
theorem qrm {n:Nat} (h:n≤9223372036854775807):IntKind.i64.wrap (n:Int)=(n:Int):=IntWalk.i64_in _ (by omega)
set_option maxRecDepth 100000 in
set_option maxHeartbeats 400000 in
theorem great_any (s:ByteArray) (w:World) (h1:1≤s.size) (h8:s.size≤8) :
 Calls Tryz.prog 147 #[.string s] w fun e w'=>e=.returned (.tuple #[.int .i64 (qhp s.data.toList:Int),.int .i64 (qdt s.data.toList:Int)])∧w=w':=by
 have hh:=head_of s h1
 have HH:=hI hh
 clear hh
 go_enter Tryz.func147,Tryz.ntmps147
 go_wp2
 go_loop [4,5] (fun n i=>∃ k:Nat,k≤s.size∧i=.int .i64 k∧n=.int .u64 (val (s.data.toList.take k):Nat)) (fun _ i=>s.size - (intOf i).toNat)
 case atStart=>exact ⟨0,Nat.zero_le _,rfl,rfl⟩
 case round =>
  obtain ⟨k,hk,rfl,rfl⟩:=hrel
  by_cases hlt:k < s.size
  ·have hx:=qtn s k (by omega)
   have HV:=hI (val_take s k hlt)
   obtain ⟨x,hx'⟩:∃ x,val (s.data.toList.take k)=x:=⟨_,rfl⟩
   rw [hx'] at hx HV
   rw [hx']
   have HX:=hI hx'
   clear hx'
   go_wp2
   go_round
   case rel=>exact ⟨k + 1,by omega,by go_num,by rw [HV.out,or_byte x _ hx]⟩
   case measure=>simp [intOf];omega
  ·have e1:s.data.toList.take k=s.data.toList:=List.take_of_length_le (by simp;omega)
   rw [e1]
   have HE:=hI e1
   clear e1
   obtain ⟨x,hx'⟩:∃ x,val s.data.toList=x:=⟨_,rfl⟩
   rw [hx']
   have HX:=hI hx'
   clear hx'
   obtain ⟨m,hm⟩:∃ m:Int,Hid (m=9223372036854775807):=⟨_,rfl⟩
   by_cases hz:s[0]=0
   ·have hz0:((s[0].toNat:Int) == 0)=true:=by rw [hz];rfl
    go_wp2
    go_ret2
    exact ⟨qpa (by unfold qhp;rw [if_pos (Or.inl (by rw [HH.out,hz]))];rfl) (by unfold qdt;rw [if_pos (Or.inl (by rw [HH.out,hz]))];rfl),rfl⟩
   ·have hz0:((s[0].toNat:Int) == 0)=false:=by
     simp
     intro e
     exact hz (UInt8.toNat_inj.1 (by simpa using e))
    have HN:Hid (¬ s.data.toList.head?=some 0):=by
     rw [HH.out]
     intro e
     injection e with e
     exact hz e
    clear hz
    by_cases h128:x < 128
    ·have hx1:decide ((x:Int) < 128)=true:=by simp;omega
     go_wp2
     go_ret2
     exact ⟨qpa (by unfold qhp;rw [if_pos (Or.inr (by rw [HX.out];exact h128))];rfl) (by unfold qdt;rw [if_pos (Or.inr (by rw [HX.out];exact h128))];rfl),rfl⟩
    ·have hx1:decide ((x:Int) < 128)=false:=by simp;omega
     have HP:Hid (¬ (s.data.toList.head?=some 0∨val s.data.toList < 128)):=by
      rintro (h | h)
      ·exact HN.out h
      ·rw [HX.out] at h;exact h128 h
     by_cases hbig:9223372036854775807 < x
     ·have hx2:decide ((9223372036854775807:Int) < (x:Int))=true:=by simp;omega
      have HB:=hI hbig
      clear hbig h128
      go_wp2
      go_ret2
      exact ⟨qpa (by unfold qhp;rw [if_neg HP.out,if_pos (by rw [HX.out];exact HB.out)];rfl) (by unfold qdt;rw [if_neg HP.out,if_pos (by rw [HX.out];exact HB.out)];rfl),rfl⟩
     ·have hx2:decide ((9223372036854775807:Int) < (x:Int))=false:=by simp;omega
      have hx3:IntKind.i64.wrap (x:Int)=(x:Int):=qrm (by omega)
      have HB:=hI hbig
      clear hbig h128
      go_wp2
      go_ret2
      exact ⟨qpa (by unfold qhp;rw [if_neg HP.out,if_neg (by rw [HX.out];exact HB.out),HX.out]) (by unfold qdt;rw [if_neg HP.out,if_neg (by rw [HX.out];exact HB.out)];rfl),rfl⟩
def gN:GR→Nat
 | .ok n _=>n
 | .no _=>0
def gT (p:Nat):GR→Nat
 | .ok _ k=>p + k
 | .no _=>0
def gE:GR→Nat
 | .ok _ _=>0
 | .no e=>e
theorem qbp {k k' k'':IntKind} {a b c d x y:Int} (h:a=b) (h':c=d) (h'':x=y):Ending.returned (.tuple #[.int k a,.int k' c,.int k'' x])=.returned (.tuple #[.int k b,.int k' d,.int k'' y]):=by rw [h,h',h'']
theorem qjk (s:ByteArray) (p:Nat) (h:p < s.size):s.data.toList.drop p=s[p] :: s.data.toList.drop (p + 1):=by
 rw [List.drop_eq_getElem_cons (by simpa using h)];rfl
theorem qwh {s:ByteArray} {p:Nat} (h:s.size≤p):getL (s.data.toList.drop p)=.no 4:=by
 rw [List.drop_of_length_le (by simpa using h)];rfl
theorem qnm {s:ByteArray} {p:Nat} (h:p < s.size) (hb:s[p].toNat < 128):getL (s.data.toList.drop p)=.ok s[p].toNat 1:=by
 rw [qjk s p h];simp only [getL];rw [if_pos hb]
theorem qrn {s:ByteArray} {p:Nat} (h:p < s.size) (hb:s[p].toNat=128∨136 < s[p].toNat):getL (s.data.toList.drop p)=.no 5:=by
 rw [qjk s p h];simp only [getL];rw [if_neg (by omega),if_pos hb]
theorem qnn {s:ByteArray} {p:Nat} (h:p < s.size) (hb:128 < s[p].toNat) (hb':s[p].toNat≤136) (hl:s.size - p - 1 < s[p].toNat - 128):getL (s.data.toList.drop p)=.no 4:=by
 have hl2:s.data.toList.length=s.size:=by simp
 rw [qjk s p h];simp only [getL];rw [if_neg (by omega),if_neg (by omega),if_pos (by rw [List.length_drop];omega)]
theorem qfd (s:ByteArray) (a b:Nat):(s.extract a b).data.toList=(s.data.toList.drop a).take (b - a):=by
 simp [ByteArray.data_extract,List.take_drop]
theorem qno {s:ByteArray} {p:Nat} (h:p < s.size) (hb:128 < s[p].toNat) (hb':s[p].toNat≤136) (hl:¬ s.size - p - 1 < s[p].toNat - 128) :
 getL (s.data.toList.drop p)=if qdt ((s.data.toList.drop (p + 1)).take (s[p].toNat - 128))≠0 then .no (qdt ((s.data.toList.drop (p + 1)).take (s[p].toNat - 128))) else .ok (qhp ((s.data.toList.drop (p + 1)).take (s[p].toNat - 128))) (1 + (s[p].toNat - 128)):=by
 have hl2:s.data.toList.length=s.size:=by simp
 have hd:((s.data.toList.drop (p + 1)).take (s[p].toNat - 128)).head?=(s.data.toList.drop (p + 1)).head?:=by rw [List.head?_take,if_neg (by omega)]
 rw [qjk s p h];simp only [getL];rw [if_neg (by omega),if_neg (by omega),if_neg (by rw [List.length_drop];omega)]
 unfold qdt qhp
 rw [hd]
 split
 ·simp
 ·split
  ·simp
  ·simp
theorem greatE_01 (l:List UInt8):qdt l=0∨qdt l=3∨qdt l=5:=by unfold qdt;(repeat' split) <;> simp
theorem qmd (s:ByteArray) (p:Nat) (h:p < s.size) (b:Nat) (hb:s[p].toNat=b) (z:Int) (hz:z=(p:Int)) (W:World) :
 (Instr.index 9 (.string s) (.int .i64 z)).run Tryz.prog W=.ok (.int .u8 (b:Int)) W:=by
 subst hz
 rw [run_index_string W 9 s .i64 _ Tryz.underlying9,dif_pos ⟨by omega,by omega⟩]
 have e:((p:Int)).toNat=p:=by omega
 simp only [e,hb]
set_option maxRecDepth 100000 in
set_option maxHeartbeats 1000000 in
theorem qto (s:ByteArray) (p:Nat) (w:World) (hp:p≤s.size) (hs:s.size≤1000000) :
 Calls Tryz.prog 133 #[.string s,.int .i64 p] w fun e w'=>e=.returned (.tuple #[.int .i64 (gN (getL (s.data.toList.drop p)):Int),.int .i64 (gT p (getL (s.data.toList.drop p)):Int),.int .i64 (gE (getL (s.data.toList.drop p)):Int)])∧w=w':=by
 by_cases hlt:p < s.size
 ·have hb:=s[p].toNat_lt
  have g1:=qnm hlt
  have g2:=qrn hlt
  have g3:=qnn hlt
  have g4:=qno hlt
  have gi:=fun b hb'=>qmd s p hlt b hb' (p:Int) rfl
  generalize s[p].toNat=b at hb g1 g2 g3 g4 gi
  have hidx:=gi b rfl
  clear gi
  have G1:=hI g1
  have G2:=hI g2
  have G3:=hI g3
  have G4:=hI g4
  clear g1 g2 g3 g4
  by_cases h1:b < 128
  ·go_enter Tryz.func133,Tryz.ntmps133
   go_wp2
   go_ret3
   exact ⟨by rw [G1.out h1];exact qbp rfl (by simp [gT]) rfl,rfl⟩
  ·by_cases h2:b=128∨136 < b
   ·have hg:=hI (G2.out h2)
    have hq:((b:Int) - 128 < 1∨8 < (b:Int) - 128):=by omega
    clear h2
    rcases hq with hq | hq
    ·go_enter Tryz.func133,Tryz.ntmps133
     go_wp2
     go_ret3
     exact ⟨by rw [hg.out];exact qbp rfl rfl rfl,rfl⟩
    ·go_enter Tryz.func133,Tryz.ntmps133
     go_wp2
     go_ret3
     exact ⟨by rw [hg.out];exact qbp rfl rfl rfl,rfl⟩
   ·have h2a:129≤b:=by omega
    have h2b:b≤136:=by omega
    clear h2 h1
    by_cases h3:s.size - p - 1 < b - 128
    ·have hg:=hI (G3.out (by omega) (by omega) h3)
     have hq:(s.size:Int) - p - 1 < (b:Int) - 128:=by omega
     clear h3
     go_enter Tryz.func133,Tryz.ntmps133
     go_wp2
     go_ret3
     exact ⟨by rw [hg.out];exact qbp rfl rfl rfl,rfl⟩
    ·have hg:=hI (G4.out (by omega) (by omega) h3)
     have hq:decide ((s.size:Int) - p - 1 < (b:Int) - 128)=false:=by simp;omega
     have hq1:(1:Int)≤(b:Int) - 128:=by omega
     have hq4:decide ((b:Int) - 128 < 1)=false:=by simp;omega
     have hq2:(0:Int)≤(p:Int) + 1 + ((b:Int) - 128):=by omega
     have hq3:(p:Int) + 1 + ((b:Int) - 128)≤(s.size:Int):=by omega
     clear h3
     have el:(s.extract (p + 1) (p + 1 + (b - 128))).data.toList=(s.data.toList.drop (p + 1)).take (b - 128):=by
      rw [qfd];congr 1;omega
     have es:(s.extract (p + 1) (p + 1 + (b - 128))).size=b - 128:=by rw [ByteArray.size_extract];omega
     have HG:=great_any (s.extract (p + 1) (p + 1 + (b - 128))) w (by omega) (by omega)
     rw [el] at HG
     have h01:=greatE_01 ((s.data.toList.drop (p + 1)).take (b - 128))
     generalize qdt ((s.data.toList.drop (p + 1)).take (b - 128))=e0 at HG hg h01
     generalize qhp ((s.data.toList.drop (p + 1)).take (b - 128))=n0 at HG hg
     have HG':=hI HG
     clear HG el es
     by_cases h0:e0=0
     ·have h0':((e0:Int) != 0)=false:=by simp;omega
      rw [if_neg (by simp [h0])] at hg
      have H0:=hI h0
      clear h0 h01
      go_enter Tryz.func133,Tryz.ntmps133
      go_wp2_with (go_at_call 147;refine HG'.out.mono ?_;rintro e w' ⟨rfl,rfl⟩)
      go_ret3
      exact ⟨by rw [hg.out];exact qbp rfl (by simp [gT];omega) rfl,rfl⟩
     ·have h0':((e0:Int) != 0)=true:=by simp;omega
      rw [if_pos h0] at hg
      have H0:=hI h0
      clear h0 h01
      go_enter Tryz.func133,Tryz.ntmps133
      go_wp2_with (go_at_call 147;refine HG'.out.mono ?_;rintro e w' ⟨rfl,rfl⟩)
      go_ret3
      exact ⟨by rw [hg.out];exact qbp (b:=0) (d:=0) (y:=e0) rfl rfl rfl,rfl⟩
 ·have hg:=hI (qwh (s:=s) (p:=p) (by omega))
  obtain rfl:p=s.size:=by omega
  go_enter Tryz.func133,Tryz.ntmps133
  go_wp2
  go_ret3
  exact ⟨by rw [hg.out];exact qbp rfl rfl rfl,rfl⟩
end Go.Proofs.YtjkecckndfcbjaaGreatDoor
namespace Go.Proofs.YtjkecckndfcbjaaGreatDoor
open Go.RowKit Nb
theorem qyh (a b:List UInt8):val (a ++ b)=val a * 256 ^ b.length + val b:=by
 unfold val
 rw [List.foldl_append]
 exact val_go b _
theorem qtp (l:List UInt8) (k:Nat):val (l.take k)≤val l:=by
 have h:=qyh (l.take k) (l.drop k)
 rw [List.take_append_drop] at h
 have:val (l.take k) * 1≤val (l.take k) * 256 ^ (l.drop k).length:=Nat.mul_le_mul_left _ (Nat.pow_pos (by omega))
 omega
theorem form_iff (l:List UInt8) (x:UInt8) (t:List UInt8) (hl:l=x :: t):(l.head?=some 0∨val l < 128)↔(x.toNat=0∨(t.length=0∧x.toNat < 128)):=by
 subst hl
 rw [qnu]
 have hx:(x :: t).head?=some 0↔x.toNat=0:=by
  simp
  constructor
  ·rintro rfl;rfl
  ·intro h;exact UInt8.toNat_inj.1 (by simpa using h)
 rw [hx]
 have hv:=val_lt t
 cases t with
 | nil=>simp [val]
 | cons y t =>
   have h1:256≤256 ^ (y :: t).length:=by rw [List.length_cons,Nat.pow_succ];have:=Nat.pow_pos (n:=t.length) (show 0 < 256 by omega);omega
   constructor
   ·rintro (h | h)
    ·exact Or.inl h
    ·left
     rcases Nat.eq_zero_or_pos x.toNat with h0 | h0
     ·exact h0
     ·have:1 * 256 ^ (y :: t).length≤x.toNat * 256 ^ (y :: t).length:=Nat.mul_le_mul_right _ h0
      omega
   ·rintro (h | ⟨h,_⟩)
    ·exact Or.inl h
    ·simp at h
theorem big_iff (l:List UInt8) (x:UInt8) (t:List UInt8) (hl:l=x :: t) (h8:t.length≤7):9223372036854775807 < val l↔(t.length=7∧127 < x.toNat):=by
 subst hl
 rw [qnu]
 have hv:=val_lt t
 have hx:=x.toNat_lt
 rcases Nat.lt_or_ge t.length 7 with h | h
 ·have h1:256 ^ t.length≤256 ^ 6:=Nat.pow_le_pow_right (by omega) (by omega)
  have h2:x.toNat * 256 ^ t.length≤255 * 256 ^ 6:=Nat.mul_le_mul (by omega) h1
  constructor
  ·intro h3;omega
  ·rintro ⟨h3,_⟩;omega
 ·have h7:t.length=7:=by omega
  rw [h7] at hv ⊢
  constructor
  ·intro h3;exact ⟨rfl,by omega⟩
  ·rintro ⟨_,h3⟩;omega
set_option maxRecDepth 100000 in
theorem getL_doc {s:ByteArray} {p b x:Nat} (h:p < s.size) (hb:s[p].toNat=b) (hb1:129≤b) (hb':b≤136) (hl:p + 1 + (b - 128)≤s.size) (hx:(s[p + 1]'(by omega)).toNat=x) :
 getL (s.data.toList.drop p)=if x=0∨(b=129∧x < 128) then .no 5 else if b=136∧127 < x then .no 3 else .ok (val ((s.data.toList.drop (p + 1)).take (b - 128))) (b - 127):=by
 have hl2:s.data.toList.length=s.size:=by simp
 have hg:=qno h (by rw [hb];omega) (by rw [hb];omega) (by rw [hb];omega)
 rw [hb] at hg
 rw [hg]
 have hd:=qjk s (p + 1) (by omega)
 obtain ⟨m,hm⟩:∃ m,b - 128=m + 1:=⟨b - 129,by omega⟩
 have e1:(s.data.toList.drop (p + 1)).take (b - 128)=s[p + 1] :: (s.data.toList.drop (p + 1 + 1)).take m:=by rw [hd,hm,List.take_succ_cons]
 have ht:((s.data.toList.drop (p + 1 + 1)).take m).length=m:=by rw [List.length_take,List.length_drop];omega
 have f1:=form_iff _ _ _ e1
 have f2:=big_iff _ _ _ e1 (by rw [ht];omega)
 rw [ht] at f1 f2
 rw [hx] at f1 f2
 generalize (s.data.toList.drop (p + 1)).take (b - 128)=l at f1 f2
 by_cases c1:x=0∨(b=129∧x < 128)
 ·have e5:qdt l=5:=by unfold qdt;rw [if_pos (f1.2 (by omega))]
  rw [if_pos c1,e5]
  simp
 ·have n1:¬ (l.head?=some 0∨val l < 128):=fun hh=>c1 (by have:=f1.1 hh;omega)
  rw [if_neg c1]
  by_cases c2:b=136∧127 < x
  ·have e5:qdt l=3:=by unfold qdt;rw [if_neg n1,if_pos (f2.2 (by omega))]
   rw [if_pos c2,e5]
   simp
  ·have n2:¬ 9223372036854775807 < val l:=fun hh=>c2 (by have:=f2.1 hh;omega)
   have e5:qdt l=0:=by unfold qdt;rw [if_neg n1,if_neg n2]
   have e6:qhp l=val l:=by unfold qhp;rw [if_neg n1,if_neg n2]
   rw [if_neg c2,e5,e6]
   simp
   omega
theorem nth_str (s:ByteArray) (p k:Nat) (h:p + k < s.size):(s.data.toList.drop p).take (k + 1)=(s.data.toList.drop p).take k ++ [s[p + k]]:=by
 rw [List.take_succ_eq_append_getElem (by rw [List.length_drop];simp;omega),List.getElem_drop];rfl
set_option maxRecDepth 100000 in
set_option maxHeartbeats 2000000 in
theorem qpb (s:ByteArray) (p:Nat) (w:World) (hp:p≤s.size) (hs:s.size≤1000000) :
 Calls Tryz.prog 120 #[.string s,.int .i64 p] w fun e w'=>e=.returned (.tuple #[.int .i64 (gN (getL (s.data.toList.drop p)):Int),.int .i64 (gT p (getL (s.data.toList.drop p)):Int),.int .i64 (gE (getL (s.data.toList.drop p)):Int)])∧w=w':=by
 by_cases hlt:p < s.size
 ·have hb:=s[p].toNat_lt
  have g1:=qnm hlt
  have g2:=qrn hlt
  have g3:=qnn hlt
  have g4:=fun b x hb=>getL_doc (b:=b) (x:=x) hlt hb
  have gi:=fun b hb'=>qmd s p hlt b hb' (p:Int) rfl
  generalize s[p].toNat=b at hb g1 g2 g3 g4 gi
  have hidx:=gi b rfl
  have g4':=fun x=>g4 b x rfl
  clear gi g4
  have G1:=hI g1
  have G2:=hI g2
  have G3:=hI g3
  have G4:=hI g4'
  clear g1 g2 g3 g4'
  by_cases h1:b < 128
  ·go_enter Tryz.func120,Tryz.ntmps120
   go_wp2
   go_ret3
   exact ⟨by rw [G1.out h1];exact qbp rfl (by simp [gT]) rfl,rfl⟩
  ·by_cases h2:b=128∨136 < b
   ·have hg:=hI (G2.out h2)
    rcases h2 with h2 | h2
    ·have hq:((b:Int) == 128)=true:=by simp;omega
     clear h2
     go_enter Tryz.func120,Tryz.ntmps120
     go_wp2
     all_goals
      go_ret3
      exact ⟨by rw [hg.out];exact qbp rfl rfl rfl,rfl⟩
    ·have hq:((b:Int) == 128)=false:=by simp;omega
     go_enter Tryz.func120,Tryz.ntmps120
     go_wp2
     go_ret3
     exact ⟨by rw [hg.out];exact qbp rfl rfl rfl,rfl⟩
   ·have h2a:129≤b:=by omega
    have h2b:b≤136:=by omega
    have hq0:((b:Int) == 128)=false:=by simp;omega
    clear h2 h1
    by_cases h3:s.size - p - 1 < b - 128
    ·have hg:=hI (G3.out (by omega) (by omega) h3)
     have hq:(s.size:Int) < (p:Int) + 1 + b - 128:=by omega
     clear h3
     go_enter Tryz.func120,Tryz.ntmps120
     go_wp2
     go_ret3
     exact ⟨by rw [hg.out];exact qbp rfl rfl rfl,rfl⟩
    ·have hq:decide ((s.size:Int) < (p:Int) + 1 + b - 128)=false:=by simp;omega
     have hl:p + 1 + (b - 128)≤s.size:=by omega
     have hb1:=(s[p + 1]'(by omega)).toNat_lt
     have g5:=fun (x:Nat) (hx:(s[p + 1]'(by omega)).toNat=x)=>G4.out x h2a h2b hl hx
     have gi:=fun (x:Nat) (hx:(s[p + 1]'(by omega)).toNat=x)=>qmd s (p + 1) (by omega) x hx ((p:Int) + 1) (by omega)
     generalize (s[p + 1]'(by omega)).toNat=x at hb1 g5 gi
     have hix:=gi x rfl
     have hg:=hI (g5 x rfl)
     clear gi g5 h3 G4
     by_cases c1:x=0∨(b=129∧x < 128)
     ·rw [if_pos c1] at hg
      by_cases c0:x=0
      ·have hx0:((x:Int) == 0)=true:=by simp;omega
       clear c1 c0
       go_enter Tryz.func120,Tryz.ntmps120
       go_wp2
       go_ret3
       exact ⟨by rw [hg.out];exact qbp rfl rfl rfl,rfl⟩
      ·have hx0:((x:Int) == 0)=false:=by simp;omega
       have hx1:((b:Int) == 129)=true:=by simp;omega
       have hx2:x < 128:=by omega
       clear c1 c0
       go_enter Tryz.func120,Tryz.ntmps120
       go_wp2
       go_ret3
       exact ⟨by rw [hg.out];exact qbp rfl rfl rfl,rfl⟩
     ·rw [if_neg c1] at hg
      have hx0:((x:Int) == 0)=false:=by simp;omega
      by_cases c2:b=136∧127 < x
      ·rw [if_pos c2] at hg
       have hx1:((b:Int) == 129)=false:=by simp;omega
       have hx2:((b:Int) == 136)=true:=by simp;omega
       have hx3:127 < x:=c2.2
       clear c1 c2
       go_enter Tryz.func120,Tryz.ntmps120
       go_wp2
       go_ret3
       exact ⟨by rw [hg.out];exact qbp rfl rfl rfl,rfl⟩
      ·rw [if_neg c2] at hg
       have HM:=hI (qco hg.out).2.2.2
       have HC1:=hI c1
       have HC2:=hI c2
       have hcases:(((b:Int) == 129)=true∧decide ((x:Int) < 128)=false∧((b:Int) == 136)=false)∨(((b:Int) == 129)=false∧((b:Int) == 136)=true∧decide ((127:Int) < (x:Int))=false)∨(((b:Int) == 129)=false∧((b:Int) == 136)=false∧True):=by
        rcases Nat.lt_trichotomy b 129 with h | h | h
        ·omega
        ·left
         exact ⟨by simp;omega,by simp;omega,by simp;omega⟩
        ·rcases Nat.lt_or_ge b 136 with h' | h'
         ·right;right
          exact ⟨by simp;omega,by simp;omega,trivial⟩
         ·right;left
          exact ⟨by simp;omega,by simp;omega,by simp;omega⟩
       clear c1 c2
       rcases hcases with ⟨f1,f2,f3⟩ | ⟨f1,f2,f3⟩ | ⟨f1,f2,f3⟩
       all_goals go_enter Tryz.func120,Tryz.ntmps120
       all_goals go_wp2_with fail
       all_goals
        go_loop [9,10] (fun n i=>∃ k:Nat,k≤b - 128∧i=.int .i64 ((p + 1 + k:Nat):Int)∧n=.int .i64 (val ((s.data.toList.drop (p + 1)).take k):Nat)) (fun _ i=>p + 1 + (b - 128) - (intOf i).toNat)
        case atStart=>exact ⟨0,Nat.zero_le _,by go_num,rfl⟩
        case round =>
         obtain ⟨k,hk,rfl,rfl⟩:=hrel
         obtain ⟨q,hq9⟩:∃ q,q=p + 1 + k:=⟨_,rfl⟩
         rw [←hq9]
         by_cases hlt2:k < b - 128
         ·have hql:q < s.size:=by omega
          have hlt3:(q:Int) < (p:Int) + 1 + b - 128:=by omega
          have hc:=s[q].toNat_lt
          have hv:val ((s.data.toList.drop (p + 1)).take (k + 1))=256 * val ((s.data.toList.drop (p + 1)).take k) + s[q].toNat:=by
           rw [nth_str s (p + 1) k (by omega),qhz];simp only [hq9]
          have hle:val ((s.data.toList.drop (p + 1)).take (k + 1))≤9223372036854775807:=by
           have:=qtp ((s.data.toList.drop (p + 1)).take (b - 128)) (k + 1)
           rw [List.take_take,Nat.min_eq_left (by omega)] at this
           exact Nat.le_trans this HM.out
          have gi:=fun (x:Nat) (hx:s[q].toNat=x)=>qmd s q hql x hx (q:Int) rfl
          generalize s[q].toNat=c at hc hv gi
          have hic:=gi c rfl
          rw [hv] at hle
          have HV:=hI hv
          clear hv gi
          generalize val ((s.data.toList.drop (p + 1)).take k)=y at hle HV ⊢
          have hle1:256 * (y:Int)≤9223372036854775807:=by omega
          have hle2:256 * (y:Int) + (c:Int)≤9223372036854775807:=by omega
          have HQ:=hI hq9
          clear hq9
          go_wp2
          go_round
          case rel=>exact ⟨k + 1,by omega,by have:=HQ.out;congr 1;omega,by rw [HV.out];congr 1⟩
          case measure=>have:=HQ.out;simp [intOf];omega
         ·have hlt3:decide ((q:Int) < (p:Int) + 1 + b - 128)=false:=by simp;omega
          have e1:k=b - 128:=by omega
          rw [e1]
          have HQ:=hI hq9
          clear hq9 e1
          go_wp2
          go_ret3
          exact ⟨by rw [hg.out];exact qbp rfl (by simp [gT];omega) rfl,rfl⟩
 ·have hg:=hI (qwh (s:=s) (p:=p) (by omega))
  obtain rfl:p=s.size:=by omega
  go_enter Tryz.func120,Tryz.ntmps120
  go_wp2
  go_ret3
  exact ⟨by rw [hg.out];exact qbp rfl rfl rfl,rfl⟩
end Go.Proofs.YtjkecckndfcbjaaGreatDoor
namespace Go.Proofs.YtjkecckndfcbjaaGreatDoor
open Go.RowKit Nb
theorem bitLen_lo:∀ n:Fin 256,n.val≠0→1≤Lib.bitLen n.val:=by decide +kernel
theorem be_bits (n:Nat):0 < n→n < 18446744073709551616→(be n).length=(Lib.bitLen n + 7) / 8:=by
 induction n using Nat.strongRecOn with
 | _ n ih =>
   intro h0 h1
   rw [qjp (by omega),List.length_append]
   by_cases h:n < 256
   ·have h2:=Lib.bitLen_le8 ⟨n,h⟩
    have h3:=bitLen_lo ⟨n,h⟩ (by simp;omega)
    simp only at h2 h3
    have e:n / 256=0:=by omega
    rw [e,qfw]
    simp
    omega
   ·rw [ih (n / 256) (by omega) (by omega) (by omega),Lib.bitLen_shift8 n (by omega) h1]
    simp
    omega
theorem be_at (n:Nat):∀ i,i < (be n).length→(be n)[i]?=some (UInt8.ofNat (n / 256 ^ ((be n).length - 1 - i) % 256)):=by
 induction n using Nat.strongRecOn with
 | _ n ih =>
   intro i hi
   by_cases h:n=0
   ·subst h;rw [qfw] at hi;simp at hi
   ·have hb:=qjp h
    have hl:(be n).length=(be (n / 256)).length + 1:=by rw [hb];simp
    rw [hl] at hi ⊢
    rw [hb]
    by_cases h2:i < (be (n / 256)).length
    ·rw [List.getElem?_append_left h2,ih (n / 256) (by omega) i h2]
     obtain ⟨d,hd⟩:∃ d,(be (n / 256)).length=i + 1 + d:=⟨(be (n / 256)).length - (i + 1),by omega⟩
     rw [hd]
     have e1:i + 1 + d - 1 - i=d:=by omega
     have e2:i + 1 + d + 1 - 1 - i=d + 1:=by omega
     rw [e1,e2,Nat.div_div_eq_div_mul,Nat.pow_succ,Nat.mul_comm 256]
    ·have:i=(be (n / 256)).length:=by omega
     subst this
     rw [List.getElem?_append_right (Nat.le_refl _)]
     simp
theorem qme (n:Nat) (h:128≤n):(numB n).length=1 + (be n).length:=by unfold numB;rw [if_neg (by omega)];simp;omega
theorem numB_at (n:Nat) (h:128≤n) (hm:n≤9223372036854775807) (t:Nat) (ht:t < (numB n).length) :
 (numB n)[t]?=some (if t=0 then UInt8.ofNat (127 + (numB n).length) else UInt8.ofNat (n / 256 ^ ((numB n).length - 1 - t) % 256)):=by
 have hs:=qme n h
 rw [hs] at ht ⊢
 unfold numB
 rw [if_neg (by omega)]
 cases t with
 | zero =>
   rw [List.getElem?_cons_zero,if_pos rfl]
   have:127 + (1 + (be n).length)=128 + (be n).length:=by omega
   rw [this]
 | succ t =>
   rw [List.getElem?_cons_succ,be_at n t (by omega),if_neg (by omega)]
   have:1 + (be n).length - 1 - (t + 1)=(be n).length - 1 - t:=by omega
   rw [this]
set_option maxRecDepth 100000 in
theorem qwi (n:Nat) (w:World) (hn:n≤9223372036854775807) :
 Calls Tryz.prog 103 #[.int .i64 n] w fun e w'=>e=.returned (.int .i64 ((numB n).length:Int))∧w=w':=by
 by_cases h:n < 128
 ·have hs:(numB n).length=1:=by unfold numB;rw [if_pos h];rfl
  rw [hs]
  go_enter Tryz.func103,Tryz.ntmps103
  go_wp2
  go_ret
  exact ⟨rfl,rfl⟩
 ·have hs:=qme n (by omega)
  rw [be_bits n (by omega) (by omega)] at hs
  rw [hs]
  have hb:Lib.bitLen n≤64:=by
   have h1:=be_bits n (by omega) (by omega)
   have h2:=qpw n 8 (by omega)
   omega
  have HL:=hI (Tryz.bits_Len (n:Int) w (by omega) (by omega))
  rw [Int.toNat_natCast] at HL
  clear hs
  generalize Lib.bitLen n=q at hb HL
  have hnn:(n:Int)≤9223372036854775807:=by omega
  go_enter Tryz.func103,Tryz.ntmps103
  go_wp2_with (go_at_call 136;refine HL.out.mono ?_;rintro e w' ⟨rfl,rfl⟩)
  go_ret
  exact ⟨qsq (by omega),rfl⟩
end Go.Proofs.YtjkecckndfcbjaaGreatDoor
namespace Go.Proofs.YtjkecckndfcbjaaGreatDoor
open Go.RowKit Nb
theorem ret_si {a b:ByteArray} {k:IntKind} {c d:Int} (h:a=b) (h':c=d):Ending.returned (.tuple #[.string a,.int k c])=.returned (.tuple #[.string b,.int k d]):=by rw [h,h']
def qtq (N S j t:Nat):Value:=if t=0 then .int .u8 (128 + (S:Int) - 1) else if t + j < S then .int .u8 0 else .int .u8 ((N / 256 ^ (S - 1 - t) % 256:Nat):Int)
def qen (N S j:Nat):Array Value:=((List.range S).map (qtq N S j)).toArray
def qmf (S:Nat):Array Value:=((List.range S).map (fun _=>Value.int .u8 0)).toArray
theorem qha (N S j t:Nat):(qen N S j)[t]?=if t < S then some (qtq N S j t) else none:=by
 unfold qen
 by_cases h:t < S
 ·simp [h]
 ·simp [h]
theorem qtr (N S:Nat) (hS:0 < S):(qmf S).setIfInBounds 0 (.int .u8 (128 + (S:Int) - 1))=qen N S 0:=by
 apply Array.ext_getElem?
 intro t
 rw [qha,Array.getElem?_setIfInBounds]
 unfold qmf qtq
 by_cases h0:t=0
 ·subst h0;simp [hS]
 ·rw [if_neg (by omega)]
  by_cases h:t < S
  ·simp [h,h0]
  ·simp [h]
theorem qyi (N S i j:Nat) (hi:0 < i) (hij:i + j + 1=S) (v:Value) (hv:v=.int .u8 ((N / 256 ^ j % 256:Nat):Int)):(qen N S j).setIfInBounds i v=qen N S (j + 1):=by
 apply Array.ext_getElem?
 intro t
 rw [Array.getElem?_setIfInBounds,qha,qha]
 have hs:(qen N S j).size=S:=by simp [qen]
 rw [hs]
 by_cases h:i=t
 ·subst h
  rw [if_pos rfl,if_pos (by omega),if_pos (by omega),hv]
  unfold qtq
  rw [if_neg (by omega),if_neg (by omega)]
  have:S - 1 - i=j:=by omega
  rw [this]
 ·rw [if_neg h]
  by_cases ht:t < S
  ·rw [if_pos ht,if_pos ht]
   unfold qtq
   by_cases h0:t=0
   ·rw [if_pos h0,if_pos h0]
   ·rw [if_neg h0,if_neg h0]
    by_cases h1:t + j < S
    ·rw [if_pos h1,if_pos (by omega)]
    ·rw [if_neg h1,if_neg (by omega)]
  ·rw [if_neg ht,if_neg ht]
theorem cells_end (N:Nat) (h:128≤N) (hm:N≤9223372036854775807) (w:World) (t:Nat) (ht:t < (numB N).length) :
 (w.alloc (.cells (qen N (numB N).length ((numB N).length - 1)) 5)).cell? (Addr.add ⟨w.heap.size,0,none⟩ t)=some (.int .u8 ((numB N)[t].toNat:Int)):=by
 have hl:=qaz N hm
 have e1:(w.alloc (.cells (qen N (numB N).length ((numB N).length - 1)) 5)).heap[w.heap.size]?=some (.cells (qen N (numB N).length ((numB N).length - 1)) 5 (0,0)):=by show (w.heap.push _)[w.heap.size]?=_;simp
 have e2:(w.alloc (.cells (qen N (numB N).length ((numB N).length - 1)) 5)).cell? ⟨w.heap.size,0 + t,none⟩=(qen N (numB N).length ((numB N).length - 1))[0 + t]?:=by
  unfold World.cell?
  simp only [e1]
  rfl
 rw [Addr.add_lit,e2,Nat.zero_add,qha,if_pos ht]
 have e3:=numB_at N h hm t ht
 rw [List.getElem?_eq_getElem ht] at e3
 injection e3 with e3
 rw [e3]
 unfold qtq
 by_cases h0:t=0
 ·rw [if_pos h0,if_pos h0,toNat_ofNat (by omega)]
  have:(128 + ((numB N).length:Int) - 1)=((127 + (numB N).length:Nat):Int):=by omega
  rw [this]
 ·rw [if_neg h0,if_neg h0,if_neg (by omega),toNat_ofNat (Nat.mod_lt _ (by omega))]
theorem qro:(Tryz.prog.info? 5).map (fun i=>(i.zero,i.size,i.bytes))=some (some (.int .u8 0),1,1):=by kernel_rfl
theorem qyj (S:Nat) (hS:S≤1000) (W:World):(Instr.makeSlice 210 (.int .i64 (S:Int)) (.int .i64 (S:Int))).run Tryz.prog W=.ok (.slice (some ⟨W.heap.size,0,none⟩) S S) (W.alloc (.cells (qmf S) 5)):=by
 obtain ⟨i0,hi0,hz0,hz1,hz2⟩:=info_parts qro
 have h:=run_make (P:=Tryz.prog) W 210 5 i0 (.int .u8 0) Tryz.underlying210 hi0 hz0 .i64 .i64 (S:Int) (S:Int) (by omega) (by omega) (by rw [hz2];omega) (by omega)
 rw [h]
 have:madeCells (Value.int .u8 0).cells ((S:Int).toNat * i0.size)=qmf S:=by
  rw [hz1,Int.toNat_natCast,Nat.mul_one]
  unfold madeCells qmf
  apply Array.ext_getElem?
  intro t
  by_cases ht:t < S
  ·simp [ht,Value.cells,Nat.mod_one]
  ·simp [ht]
 rw [this,Int.toNat_natCast]
theorem qnp {n:Nat} (h:n < 128):numB n=[UInt8.ofNat n]:=by unfold numB;rw [if_pos h]
theorem wrap_u8 (n:Nat):IntKind.u8.wrap (n:Int)=((n % 256:Nat):Int):=by rw [IntKind.wrap_u8];omega
theorem qwj (n:Nat) (h:n < 128) (W:World):(convert 210 9 (.slice (some ⟨W.heap.size,0,none⟩) 1 1)).run Tryz.prog (W.alloc (.cells #[.int .u8 (n:Int)] 5))=.ok (.string ⟨(numB n).toArray⟩) (W.alloc (.cells #[.int .u8 (n:Int)] 5)):=by
 rw [qnp h]
 have:=run_convert_bytes_back (P:=Tryz.prog) (W.alloc (.cells #[.int .u8 (n:Int)] 5)) 210 9 5 ⟨W.heap.size,0,none⟩ 1 [UInt8.ofNat n] Tryz.underlying210 Tryz.underlying5 Tryz.underlying9 (by
  intro j hj
  match j,hj with
  | 0,_=>simp [Addr.add];omega)
 exact this
set_option maxRecDepth 100000 in
set_option maxHeartbeats 1000000 in
theorem qts (n:Nat) (w:World) (hn:n≤9223372036854775807) :
 Calls Tryz.prog 126 #[.int .i64 n] w fun e w'=>e=.returned (.tuple #[.string ⟨(numB n).toArray⟩,.int .i64 0])∧Below w.heap.size w w':=by
 have HS:=hI (qwi n w hn)
 by_cases h:n < 128
 ·have hs:(numB n).length=1:=by rw [qnp h];rfl
  rw [hs] at HS
  have hw:IntKind.u8.wrap (n:Int)=(n:Int):=by rw [wrap_u8];omega
  have hc:=qwj n h w
  clear hs
  go_enter Tryz.func126,Tryz.ntmps126
  go_wp2_with (go_at_call 103;refine HS.out.mono ?_;rintro e w' ⟨rfl,rfl⟩)
  go_ret2
  exact ⟨rfl,bel1 w _⟩
 ·have hl:=qaz n hn
  have hs:=qme n (by omega)
  have hp:=qix (n:=n) (by omega)
  have hE:=fun t ht=>cells_end n (by omega) hn w t ht
  have hcv:=run_convert_bytes_back (P:=Tryz.prog) (w.alloc (.cells (qen n (numB n).length ((numB n).length - 1)) 5)) 210 9 5 ⟨w.heap.size,0,none⟩ (numB n).length (numB n) Tryz.underlying210 Tryz.underlying5 Tryz.underlying9 hE
  have HB:=hI (bel1 w (.cells (qen n (numB n).length ((numB n).length - 1)) 5))
  clear hE
  have h2:2≤(numB n).length:=by omega
  clear hs hp
  generalize (numB n).length=S at HS hl h2 hcv HB
  have HCV:=hI hcv
  clear hcv
  have hmk:=qyj S (by omega)
  have HST:=hI (qtr n S (by omega))
  have f0:((S:Int) == 0)=false:=by simp;omega
  have f1:((S:Int) == 1)=false:=by simp;omega
  have z0:(qmf S)[0]?=some (.int .u8 0):=by unfold qmf;rw [List.getElem?_toArray,List.getElem?_map,List.getElem?_range (by omega)];rfl
  go_enter Tryz.func126,Tryz.ntmps126
  go_wp2_with (go_at_call 103;refine HS.out.mono ?_;rintro e w' ⟨rfl,rfl⟩)
  go_loopw [0,6] (fun nv iv wr=>∃ i j:Nat,i + j + 1=S∧iv=.int .i64 i∧nv=.int .i64 ((n / 256 ^ j:Nat):Int)∧wr=w.alloc (.cells (qen n S j) 5)) (fun _ i _=>(intOf i).toNat)
  case atStart=>exact ⟨S - 1,0,by omega,by go_num,by simp,by rw [HST.out]⟩
  case round =>
   obtain ⟨i,j,hij,rfl,rfl,rfl⟩:=hrel
   by_cases hi:0 < i
   ·have zc:(qen n S j)[i]?=some (qtq n S j i):=by rw [qha,if_pos (by omega)]
    have iz:(i:Int) < (S:Int):=by omega
    have i0:(0:Int) < (i:Int):=by omega
    have HST2:=hI (fun v hv=>qyi n S i j hi hij v hv)
    have e9:n / 256 ^ j / 256=n / 256 ^ (j + 1):=by rw [Nat.div_div_eq_div_mul,Nat.pow_succ]
    have HE9:=hI e9
    have HIJ:=hI hij
    have hw:=wrap_u8 (n / 256 ^ j)
    clear e9 hij
    have hy:n / 256 ^ j≤n:=Nat.div_le_self _ _
    generalize n / 256 ^ j=y at hw HST2 HE9 hy
    have hy2:y≤9223372036854775807:=by omega
    clear hy
    go_wp2
    go_roundw
    case rel =>
     refine ⟨i - 1,j + 1,by have:=HIJ.out;omega,by go_num,?_,?_⟩
     ·rw [←HE9.out];congr 1
     ·rw [HST2.out (.int .u8 ((y:Int) % 256)) (by congr 1)]
    case measure=>simp [intOf];omega
   ·obtain rfl:i=0:=by omega
    obtain rfl:j=S - 1:=by omega
    have h00:¬ ((0:Int) < ((0:Nat):Int)):=by omega
    have hcv:=HCV.out
    go_wp2
    go_ret2
    exact ⟨rfl,HB.out⟩
theorem qrp (c:Int) (u:UInt8) (hu:(u.toNat:Int)=c) (W:World):(convert 210 9 (.slice (some ⟨W.heap.size,0,none⟩) 1 1)).run Tryz.prog (W.alloc (.cells #[.int .u8 c] 5))=.ok (.string ⟨#[u]⟩) (W.alloc (.cells #[.int .u8 c] 5)):=by
 have:=run_convert_bytes_back (P:=Tryz.prog) (W.alloc (.cells #[.int .u8 c] 5)) 210 9 5 ⟨W.heap.size,0,none⟩ 1 [u] Tryz.underlying210 Tryz.underlying5 Tryz.underlying9 (by
  intro j hj
  match j,hj with
  | 0,_=>simp [Addr.add];omega)
 exact this
theorem qjl (a b:List UInt8):(⟨a.toArray⟩:ByteArray) ++ ⟨b.toArray⟩=⟨(a ++ b).toArray⟩:=by
 apply ByteArray.ext
 simp
theorem qbb (l:List UInt8):(⟨l.toArray⟩:ByteArray).size=l.length:=by simp [ByteArray.size]
def PutR (n:Nat) (w:World) (nv ov:Value) (wr:World):Prop:=∃ (y:Nat) (x:ByteArray),nv=.int .i64 (y:Int)∧ov=.string x∧y≤n∧be y ++ x.data.toList=be n∧Below w.heap.size w wr
set_option maxRecDepth 100000 in
set_option maxHeartbeats 1000000 in
theorem qjm (n:Nat) (w:World) (hn:n≤9223372036854775807) :
 Calls Tryz.prog 111 #[.int .i64 n] w fun e w'=>e=.returned (.tuple #[.string ⟨(numB n).toArray⟩,.int .i64 0])∧Below w.heap.size w w':=by
 by_cases h:n < 128
 ·have hw:IntKind.u8.wrap (n:Int)=(n:Int):=by rw [wrap_u8];omega
  have hc:=qwj n h w
  go_enter Tryz.func111,Tryz.ntmps111
  go_wp2
  go_ret2
  exact ⟨rfl,bel1 w _⟩
 ·go_enter Tryz.func111,Tryz.ntmps111
  go_wp2
  go_loopw [0,4] (fun nv ov wr=>PutR n w nv ov wr) (fun nv _ _=>(intOf nv).toNat)
  case atStart=>exact ⟨n,⟨#[]⟩,rfl,rfl,Nat.le_refl _,by simp,Below.refl _ _⟩
  case round =>
   obtain ⟨y,x,rfl,rfl,hy,hx,hb⟩:=hrel
   have hx8:x.size≤8:=by
    have h1:=qpw n 8 (by omega)
    have h2:x.size=x.data.toList.length:=by simp
    rw [←hx,List.length_append] at h1
    omega
   have HX:=hI hx
   have HB:=hI hb
   clear hx hb
   by_cases h0:0 < y
   ·have z0:(0:Int) < (y:Int):=by omega
    have zy:(y:Int)≤9223372036854775807:=by omega
    obtain ⟨u,hu⟩:∃ u:UInt8,u=UInt8.ofNat (y % 256):=⟨_,rfl⟩
    have hu2:(u.toNat:Int)=(y:Int) % 256:=by rw [hu,toNat_ofNat (by omega)];omega
    have hc:=qrp ((y:Int) % 256) u hu2 wr
    have m0:=Int.emod_nonneg (y:Int) (show (256:Int)≠0 by omega)
    have m1:=Int.emod_lt_of_pos (y:Int) (show (0:Int) < 256 by omega)
    obtain ⟨z,hz⟩:∃ z,(⟨#[u]⟩:ByteArray) ++ x=z:=⟨_,rfl⟩
    have HZ:Hid (z.data.toList=u :: x.data.toList):=by
     have e0:z.data.toList=u :: x.data.toList:=by rw [←hz];simp
     exact e0
    have HU:=hI hu
    clear hu hu2
    go_wp2
    go_roundw
    case rel =>
     refine ⟨y / 256,z,by go_num,rfl,by omega,?_,qab HB.out _⟩
     have e1:=HX.out
     rw [qjp (by omega)] at e1
     rw [←e1,HZ.out,HU.out];simp
    case measure=>simp [intOf];omega
   ·have h00:decide ((0:Int) < (y:Int))=false:=by simp;omega
    have e1:x.data.toList=be n:=by
     have:=HX.out
     have e0:y=0:=by omega
     rwa [e0,qfw,List.nil_append] at this
    have hsz:x.size=(be n).length:=by rw [←e1];simp
    have hl:=qpw n 8 (by omega)
    obtain ⟨u,hu⟩:∃ u:UInt8,u=UInt8.ofNat (128 + x.size):=⟨_,rfl⟩
    have hu2:(u.toNat:Int)=128 + (x.size:Int):=by rw [hu,toNat_ofNat (by omega)];omega
    have hc:=qrp (128 + (x.size:Int)) u hu2 wr
    obtain ⟨z,hz⟩:∃ z,(⟨#[u]⟩:ByteArray) ++ x=z:=⟨_,rfl⟩
    have HZ:Hid (z=⟨(numB n).toArray⟩):=by
     rw [←hz]
     apply ByteArray.ext
     unfold numB
     rw [if_neg h,hu,hsz,←e1]
     simp
    clear hu hu2 e1 hsz hl
    go_wp2
    go_ret2
    exact ⟨ret_si HZ.out rfl,qab HB.out _⟩
end Go.Proofs.YtjkecckndfcbjaaGreatDoor
