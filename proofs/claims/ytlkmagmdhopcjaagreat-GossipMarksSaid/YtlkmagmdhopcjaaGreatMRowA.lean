/- Texts that the law leans on. -/
import Derived.Laws.BitsAllLaws
import Derived.Laws.BitsLemmas
import Derived.IntWalk
import Derived.Laws.IdiomStrings
import Derived.Laws.MakeOwn
import Derived.Test.YtlkmagmdhopcjaaGreatMBoxG
import Derived.Test.YtlkmagmdhopcjaaGreatMOwnK
import Derived.Test.YtlkmagmdhopcjaaGreatMBase
import Derived.Test.YtlkmagmdhopcjaaGreatShelf
namespace Go.Proofs.YtlkmagmdhopcjaaGreat
open Go.RowKit Nb
def LayN (d:Array Int):Prop:=∀ i,i < d.size→0≤d[i]!∧d[i]!≤9223372036854775807
end Go.Proofs.YtlkmagmdhopcjaaGreat
namespace Go.Proofs.YtlkmagmdhopcjaaGreat
open Go.RowKit Nb
end Go.Proofs.YtlkmagmdhopcjaaGreat
namespace Go.Proofs.YtlkmagmdhopcjaaGreat
open Go.RowKit Go.Sort Go.Lib
def pcN (x:Nat):Nat→Nat
 | 0=>0
 | k + 1=>pcN x k + if x.testBit k then 1 else 0
def F1 (x:Int):Int:=IntKind.u64.wrap (bits .and .u64 (x / 2) 6148914691236517205 + bits .and .u64 x 6148914691236517205)
def F2 (y:Int):Int:=IntKind.u64.wrap (bits .and .u64 (y / 4) 3689348814741910323 + bits .and .u64 y 3689348814741910323)
def F3 (y:Int):Int:=bits .and .u64 (y / 16 + y) 1085102592571150095
def F4 (y:Int):Int:=bits .and .i64 (y + y / 256 + (y + y / 256) / 65536 + (y + y / 256 + (y + y / 256) / 65536) / 4294967296) 127
theorem pc_all:∀ x:Fin 512,0≤F1 (x.1:Int)∧F1 (x.1:Int)≤5000∧0≤F2 (F1 (x.1:Int))∧F2 (F1 (x.1:Int))≤5000∧0≤F3 (F2 (F1 (x.1:Int)))∧F3 (F2 (F1 (x.1:Int)))≤5000∧F4 (F3 (F2 (F1 (x.1:Int))))=(pcN x.1 9:Int):=by decide +kernel
set_option maxHeartbeats 1000000 in
theorem qym (x:Nat) (w:World) (h1:x≤511) :
 Calls Tryz.prog 295 #[.int .u64 x] w fun e w'=>e=.returned (.int .i64 (pcN x 9))∧w=w':=by
 obtain ⟨a1,b1,a2,b2,a3,b3,hp⟩:=pc_all ⟨x,by omega⟩
 have HP:Hid (F4 (F3 (F2 (F1 (x:Int))))=(pcN x 9:Int)):=hp
 simp only [] at a1 b1 a2 b2 a3 b3
 have e1:IntKind.u64.wrap (bits .and .u64 ((x:Int) / 2) 6148914691236517205 + bits .and .u64 (x:Int) 6148914691236517205)=F1 (x:Int):=rfl
 generalize F1 (x:Int)=y1 at *
 have e2:IntKind.u64.wrap (bits .and .u64 (y1 / 4) 3689348814741910323 + bits .and .u64 y1 3689348814741910323)=F2 y1:=rfl
 generalize F2 y1=y2 at *
 have e3:bits .and .u64 (y2 / 16 + y2) 1085102592571150095=F3 y2:=rfl
 generalize F3 y2=y3 at *
 have x0:(0:Int)≤x:=by omega
 clear hp
 go_enter Tryz.func295,Tryz.ntmps295
 go_wp2
 go_ret
 exact ⟨qan (by rw [←HP.out];rfl),rfl⟩
theorem Ones_any (x:Nat) (w:World) (h1:x≤511) :
 Calls Tryz.prog 268 #[.int .u64 x] w fun e w'=>e=.returned (.int .i64 (pcN x 9))∧w=w':=by
 go_enter Tryz.func268,Tryz.ntmps268
 go_wp2_with (go_at_call 295;refine (qym _ _ h1).mono ?_;rintro e w' ⟨rfl,rfl⟩)
 go_ret
 exact ⟨rfl,rfl⟩
theorem may_any (s:Int) (w:World) :
 Calls Tryz.prog 267 #[.int .i64 s] w fun e w'=>e=.returned (.bool (decide (0≤s∧s≤511)))∧w=w':=by
 go_enter Tryz.func267,Tryz.ntmps267
 go_wp2
 all_goals
  go_ret
  exact ⟨qac (by simp <;> omega),rfl⟩
theorem Count_any (x:Nat) (w:World) (h1:x≤511) :
 Calls Tryz.prog 234 #[.int .i64 x] w fun e w'=>e=.returned (.int .i64 (pcN x 9))∧w=w':=by
 have hm:=may_any (x:Int)
 rw [show decide (0≤(x:Int)∧(x:Int)≤511)=true by simp;omega] at hm
 have HM:=hI hm;clear hm
 go_enter Tryz.func234,Tryz.ntmps234
 go_wp2_with (first | (go_at_call 267;refine (HM.out _).mono ?_;rintro e w' ⟨rfl,rfl⟩) | (go_at_call 268;refine (Ones_any _ _ h1).mono ?_;rintro e w' ⟨rfl,rfl⟩))
 go_ret
 exact ⟨rfl,rfl⟩
theorem pc_pos:∀ x:Fin 512,0 < x.1→0 < pcN x.1 9:=by decide +kernel
def qbr (t:Int):Bool:=decide (1≤t∧t≤1000000)
def qew (t:Int):Bool:=decide (0≤t∧t≤1000000)
def okId (id:Int):Bool:=decide (10≤id∧id≤999999∧id % 10≠0)
theorem qeo (t:Int) (w:World) :
 Calls Tryz.prog 208 #[.int .i64 t] w fun e w'=>e=.returned (.bool (qbr t))∧w=w':=by
 go_enter Tryz.func208,Tryz.ntmps208
 go_wp2
 all_goals
  go_ret
  exact ⟨qac (by unfold qbr;simp <;> omega),rfl⟩
theorem qwa (t:Int) (w:World) :
 Calls Tryz.prog 255 #[.int .i64 t] w fun e w'=>e=.returned (.bool (qew t))∧w=w':=by
 go_enter Tryz.func255,Tryz.ntmps255
 go_wp2
 all_goals
  go_ret
  exact ⟨qac (by unfold qew;simp <;> omega),rfl⟩
theorem qdb (t:Int) (w:World) :
 Calls Tryz.prog 210 #[.int .i64 t] w fun e w'=>e=.returned (.bool (qbr t))∧w=w':=by
 go_enter Tryz.func210,Tryz.ntmps210
 go_wp2
 all_goals
  go_ret
  exact ⟨qac (by unfold qbr;simp <;> omega),rfl⟩
def idE (id:Int):Int:=if okId id then 0 else 31
set_option maxHeartbeats 400000 in
theorem qce (id:Int) (w:World) :
 Calls Tryz.prog 130 #[.int .i64 id] w fun e w'=>e=.returned (.int .i64 (idE id))∧w=w':=by
 go_enter Tryz.func130,Tryz.ntmps130
 go_wp2
 all_goals
  go_ret
  exact ⟨qan (by unfold idE okId;split <;> simp_all <;> omega),rfl⟩
theorem qij (id:Int):(idE id != 0) = !okId id:=by unfold idE;cases okId id <;> rfl
def carB (m:PM):Bool:=decide (1≤m.q∧m.q≤511∧m.pay.size≤300)
set_option maxRecDepth 100000 in
set_option maxHeartbeats 1000000 in
theorem qco (m:PM) (w:World) (hp:m.pay.size≤1000000) :
 Calls Tryz.prog 209 #[msgV m] w fun e w'=>e=.returned (.bool (carB m))∧Below w.heap.size w w':=by
 unfold msgV
 by_cases h0:0 < m.q
 ·by_cases h1:m.q≤511
  ·obtain ⟨x,hx⟩:∃ x:Nat,m.q=(x:Int):=⟨m.q.toNat,by omega⟩
   have hc:=pc_pos ⟨x,by omega⟩ (by simp;omega)
   simp only at hc
   have HC:=hI (fun W=>Count_any x W (by omega))
   generalize pcN x 9=c at hc HC
   have hcz:(0:Int) < (c:Int):=by omega
   have HB:Hid (carB m=decide (m.pay.size≤300)):=decide_eq_decide.2 ⟨fun h=>h.2.2,fun h=>⟨by omega,by omega,h⟩⟩
   have hx0:(0:Int) < (x:Int):=by omega
   rw [hx]
   clear hx h0 h1 hc
   go_enter Tryz.func209,Tryz.ntmps209
   go_wp2_with (go_at_call 234;refine (HC.out _).mono ?_;rintro e w' ⟨rfl,rfl⟩)
   all_goals
    go_ret
    exact ⟨qac (by rw [HB.out];simp <;> omega),bel1 w _⟩
  ·have HM:Hid (∀ W,Calls Tryz.prog 234 #[.int .i64 m.q] W fun e w'=>e=.returned (.int .i64 0)∧W=w'):=by
    intro W
    have hm:=may_any m.q W
    rw [show decide (0≤m.q∧m.q≤511)=false by simp;omega] at hm
    have HM:=hI hm;clear hm
    go_enter Tryz.func234,Tryz.ntmps234
    go_wp2_with (go_at_call 267;refine HM.out.mono ?_;rintro e w' ⟨rfl,rfl⟩)
    go_ret
    exact ⟨rfl,rfl⟩
   have HB:Hid (carB m=false):=by show _=_;unfold carB;simp;omega
   rw [HB.out]
   go_enter Tryz.func209,Tryz.ntmps209
   go_wp2_with (go_at_call 234;refine (HM.out _).mono ?_;rintro e w' ⟨rfl,rfl⟩)
   go_ret
   exact ⟨rfl,bel1 w _⟩
 ·have HB:Hid (carB m=false):=by show _=_;unfold carB;simp;omega
  rw [HB.out]
  have h0':decide ((0:Int) < m.q)=false:=by simp;omega
  go_enter Tryz.func209,Tryz.ntmps209
  go_wp2
  go_ret
  exact ⟨rfl,bel1 w _⟩
theorem beqI (a b:Int):(a == b)=decide (a=b):=by by_cases h:a=b <;> simp [h]
def tolB (m:PM):Bool:=decide (0≤m.abal∧m.abal < m.bal∧1≤m.t∧m.t≤1000000∧1≤m.ph∧m.ph≤4∧(0 < m.abal∨3≤m.ph))
set_option maxRecDepth 100000 in
set_option maxHeartbeats 1000000 in
theorem qdc (m:PM) (w:World) :
 Calls Tryz.prog 211 #[msgV m] w fun e w'=>e=.returned (.bool (tolB m))∧Below w.heap.size w w':=by
 unfold msgV
 have HT:=hI (fun W=>qeo m.t W)
 cases ht:qbr m.t
 ·rw [ht] at HT
  have HB:Hid (tolB m=false):=by show _=_;unfold tolB;unfold qbr at ht;simp at ht ⊢;omega
  rw [HB.out]
  clear ht
  go_enter Tryz.func211,Tryz.ntmps211
  go_wp2_with (go_at_call 208;refine (HT.out _).mono ?_;rintro e w' ⟨rfl,rfl⟩)
  all_goals
   go_ret
   exact ⟨rfl,bel1 w _⟩
 ·rw [ht] at HT
  have hk:1≤m.t∧m.t≤1000000:=by unfold qbr at ht;simpa using ht
  have HK:=hI hk
  clear ht hk
  have e0:∃ f,Hid (f=decide (m.abal=0))∧(m.abal == 0)=f:=⟨_,hI rfl,beqI _ _⟩
  have e3:∃ f,Hid (f=decide (m.ph=3))∧(m.ph == 3)=f:=⟨_,hI rfl,beqI _ _⟩
  have e4:∃ f,Hid (f=decide (m.ph=4))∧(m.ph == 4)=f:=⟨_,hI rfl,beqI _ _⟩
  obtain ⟨f0,H0,b0⟩:=e0
  obtain ⟨f3,H3,b3⟩:=e3
  obtain ⟨f4,H4,b4⟩:=e4
  cases f0 <;> cases f3 <;> cases f4
  all_goals
   go_enter Tryz.func211,Tryz.ntmps211
   go_wp2_with (go_at_call 208;refine (HT.out _).mono ?_;rintro e w' ⟨rfl,rfl⟩)
  all_goals
   go_ret
   exact ⟨qac (by
    have h1:=HK.out
    have h2:=H0.out
    have h3:=H3.out
    have h4:=H4.out
    simp at h2 h3 h4
    unfold tolB
    first
    | (symm;rw [decide_eq_true_iff];omega)
    | (symm;rw [decide_eq_false_iff_not];omega)
    | (rw [decide_eq_decide];omega)),bel1 w _⟩
end Go.Proofs.YtlkmagmdhopcjaaGreat
namespace Go.Proofs.YtlkmagmdhopcjaaGreat
open Go.RowKit Go.Sort Go.Lib
def attL (hi:Int):Int→List (Int×Int)→Bool
 | _,[]=>true
 | lo,a :: l=>decide (lo < a.1∧a.1≤hi) && okId a.2 && attL hi a.1 l
theorem drop_arr {α:Type} [Inhabited α] (d:Array α) (k:Nat) (h:k < d.size):d.toList.drop k=d[k]! :: d.toList.drop (k + 1):=by
 rw [List.drop_eq_getElem_cons (by simpa using h),getElem!_pos d k h];rfl
def AttR (lo hi:Int) (d:Array (Int×Int)) (w:World) (lv iv:Value) (wr:World):Prop:=∃ (k:Nat) (last:Int),iv=.int .i64 (k:Int)∧lv=.int .i64 last∧k≤d.size∧attL hi lo d.toList=attL hi last (d.toList.drop k)∧Below w.heap.size w wr
set_option maxRecDepth 100000 in
set_option maxHeartbeats 1000000 in
theorem qrx (A:Option Addr) (c:Nat) (d:Array (Int×Int)) (lo hi:Int) (w:World) (h:RdK encA 2 w.heap.size w A d) (hs:d.size≤1000000) :
 Calls Tryz.prog 257 #[.slice A d.size c,.int .i64 lo,.int .i64 hi] w fun e w'=>e=.returned (.bool (attL hi lo d.toList && decide (d.size≤200)))∧Below w.heap.size w w':=by
 have HR:=hI h
 clear h
 go_enter Tryz.func257,Tryz.ntmps257
 go_wp2
 go_loopw [7,13] (fun lv iv wr=>AttR lo hi d w lv iv wr) (fun _ i _=>d.size - (intOf i).toNat)
 case atStart=>exact ⟨0,lo,rfl,rfl,Nat.zero_le _,rfl,Below.refl _ _⟩
 case round =>
  obtain ⟨k,last,rfl,rfl,hk,hat,hB⟩:=hrel
  have HAT:=hI hat
  have HB:=hI hB
  clear hat hB
  by_cases hlt:k < d.size
  ·have kz:(k:Int) < (d.size:Int):=by omega
   obtain ⟨b,off,rfl,hbl,f⟩:=(HR.out.below HB.out).at_ hlt
   have e0:=f 0 (by omega)
   have e1:=f 1 (by omega)
   have HD:=hI (drop_arr d k hlt)
   generalize d[k]! = x at e0 e1 HD
   simp only [Nat.add_zero,encA,List.getElem!_cons_zero,List.getElem!_cons_succ] at e0 e1
   clear f
   have HI:=hI (fun W=>qce x.2 W)
   have hne:=qij x.2
   cases hid:okId x.2
   ·rw [hid] at hne
    have HF:Hid (attL hi lo d.toList=false):=by show _=_;rw [HAT.out,HD.out];simp [attL,hid]
    clear hid
    go_wp2_with (go_at_call 130;refine (HI.out _).mono ?_;rintro e w' ⟨rfl,rfl⟩)
    all_goals
     go_ret
     exact ⟨qac (by rw [HF.out];rfl),qab HB.out _⟩
   ·rw [hid] at hne
    by_cases hr:last < x.1∧x.1≤hi
    ·have h1:decide (x.1≤last)=false:=by simp;omega
     have h2:decide (hi < x.1)=false:=by simp;omega
     have HN:Hid (attL hi lo d.toList=attL hi x.1 (d.toList.drop (k + 1))):=by show _=_;rw [HAT.out,HD.out];simp [attL,hid,hr]
     clear hid hr
     go_wp2_with (go_at_call 130;refine (HI.out _).mono ?_;rintro e w' ⟨rfl,rfl⟩)
     go_roundw
     case rel=>exact ⟨k + 1,x.1,by go_num,rfl,by omega,HN.out,qab HB.out _⟩
     case measure=>simp [intOf];omega
    ·have HF:Hid (attL hi lo d.toList=false):=by show _=_;rw [HAT.out,HD.out];simp [attL];intro h1 h2;omega
     clear hid
     by_cases h1:x.1≤last
     ·clear hr
      go_wp2
      go_ret
      exact ⟨qac (by rw [HF.out];rfl),qab HB.out _⟩
     ·have h2:hi < x.1:=by omega
      have h1':decide (x.1≤last)=false:=by simp;omega
      clear hr h1
      go_wp2
      go_ret
      exact ⟨qac (by rw [HF.out];rfl),qab HB.out _⟩
  ·have hlt':decide ((k:Int) < (d.size:Int))=false:=by simp;omega
   have HE:Hid (attL hi lo d.toList=true):=by
    show _=_
    rw [HAT.out,List.drop_of_length_le (by simp;omega)];rfl
   go_wp2
   go_ret
   exact ⟨qac (by rw [HE.out,Bool.true_and];simp <;> omega),HB.out⟩
theorem none_any (t:Int) (w:World) :
 Calls Tryz.prog 256 #[.int .i64 t] w fun e w'=>e=.returned (.bool (!qew t))∧w=w':=by
 have HM:=hI (fun W=>qwa t W)
 go_enter Tryz.func256,Tryz.ntmps256
 go_wp2_with (go_at_call 255;refine (HM.out _).mono ?_;rintro e w' ⟨rfl,rfl⟩)
 go_ret
 exact ⟨rfl,rfl⟩
def mksB (d:Array Int):Bool:=decide (∀ j,j < d.size→qew d[j]! = true)
def IdxR (d:Array Int) (e:Ending):Prop:=∃ r:Int,e=.returned (.int .i64 r)∧((0≤r∧mksB d=false)∨(r = -1∧mksB d=true))
set_option maxRecDepth 100000 in
set_option maxHeartbeats 1000000 in
theorem qqa (A:Option Addr) (c:Nat) (d:Array Int) (w:World) (h:RdI w.heap.size w A d) (hs:d.size≤1000000) :
 Calls Tryz.prog 219 #[.slice A d.size c,.func (.func 256) #[] #[]] w fun e w'=>IdxR d e∧w=w':=by
 have HR:=hI h
 clear h
 go_enter Tryz.func219,Tryz.ntmps219
 go_wp2
 go_loop [8] (fun i=>∃ k:Nat,i=.int .i64 k∧k≤d.size∧Hid (∀ j,j < k→qew d[j]! = true)) (fun i=>d.size - (intOf i).toNat)
 case atStart=>exact ⟨0,rfl,Nat.zero_le _,hI (fun j hj=>absurd hj (by omega))⟩
 case round =>
  obtain ⟨k,rfl,hk,hall⟩:=hrel
  by_cases hlt:k < d.size
  ·have kz:(k:Int) < (d.size:Int):=by omega
   obtain ⟨b,off,rfl,hbl,hc⟩:=HR.out.at_ hlt
   obtain ⟨x,hx⟩:∃ x,d[k]! = x:=⟨_,rfl⟩
   rw [hx] at hc
   have HX:=hI hx
   have HN:=hI (fun W=>none_any x W)
   clear hx
   cases hm:qew x
   ·rw [hm] at HN
    have HF:Hid (mksB d=false):=by
     show _=_
     unfold mksB
     rw [decide_eq_false_iff_not]
     intro hh
     have:=hh k hlt
     rw [HX.out,hm] at this
     cases this
    clear hm
    go_wp2_with (go_at_call 256;refine (HN.out _).mono ?_;rintro e w' ⟨rfl,rfl⟩)
    go_ret
    exact ⟨⟨k,rfl,Or.inl ⟨by omega,HF.out⟩⟩,rfl⟩
   ·rw [hm] at HN
    have HM:=hI hm
    clear hm
    go_wp2_with (go_at_call 256;refine (HN.out _).mono ?_;rintro e w' ⟨rfl,rfl⟩)
    go_round
    case rel =>
     refine ⟨k + 1,by go_num,by omega,hI (fun j hj=>?_)⟩
     rcases Nat.lt_or_ge j k with h | h
     ·exact hall.out j h
     ·obtain rfl:j=k:=by omega
      rw [HX.out];exact HM.out
    case measure=>simp [intOf];omega
  ·have hlt':decide ((k:Int) < (d.size:Int))=false:=by simp;omega
   go_wp2
   go_ret
   exact ⟨⟨-1,rfl,Or.inr ⟨rfl,by unfold mksB;rw [decide_eq_true_iff];exact fun j hj=>hall.out j (by omega)⟩⟩,rfl⟩
theorem qkv (A:Option Addr) (c:Nat) (d:Array Int) (w:World) (h:RdI w.heap.size w A d) (hs:d.size≤1000000) :
 Calls Tryz.prog 162 #[.slice A d.size c,.func (.func 256) #[] #[]] w fun e w'=>e=.returned (.bool (!mksB d))∧w=w':=by
 have HI:=hI (qqa A c d w h hs)
 clear h
 go_enter Tryz.func162,Tryz.ntmps162
 go_wp2_with fail
 refine HI.out.mono ?_
 rintro e w' ⟨⟨r,rfl,hr⟩,rfl⟩
 have HRR:=hI hr
 clear hr
 go_wp2
 go_ret
 refine ⟨qac ?_,rfl⟩
 rcases HRR.out with ⟨h1,h2⟩ | ⟨h1,h2⟩
 ·rw [h2];simp;omega
 ·rw [h2];simp;omega
def proB (m:PM):Bool:=decide (0≤m.lo∧m.lo≤1000000∧0≤m.hi∧m.hi≤1000000∧m.lo≤m.hi∧0≤m.dn∧m.dn≤1000000∧m.mks.size≤9) && (attL m.hi m.lo m.ats.toList && decide (m.ats.size≤200)) && mksB m.mks
set_option maxRecDepth 100000 in
set_option maxHeartbeats 2000000 in
theorem qry (m:PM) (w:World) (hm:RdM w m) :
 Calls Tryz.prog 207 #[msgV m] w fun e w'=>e=.returned (.bool (proB m))∧Below w.heap.size w w':=by
 have HK:=hI (fun t W=>qwa t W)
 have HA:=hI (fun W (h:Below w.heap.size w W)=>qrx m.aA m.aC m.ats m.lo m.hi W (hm.next h).ra hm.sa)
 have HC:=hI (fun W (h:Below w.heap.size w W)=>qkv m.mA m.mC m.mks W (hm.next h).rm hm.sm)
 unfold msgV
 by_cases hb:0≤m.lo∧m.lo≤1000000∧0≤m.hi∧m.hi≤1000000∧m.lo≤m.hi∧0≤m.dn∧m.dn≤1000000∧m.mks.size≤9
 ·have HP:Hid (proB m=((attL m.hi m.lo m.ats.toList && decide (m.ats.size≤200)) && mksB m.mks)):=by show _=_;unfold proB;rw [decide_eq_true_iff.2 hb];simp
  obtain ⟨b1,b2,b3,b4,b5,b6,b7,b8⟩:=hb
  have k1:qew m.lo=true:=by unfold qew;simp;omega
  have k2:qew m.hi=true:=by unfold qew;simp;omega
  have k3:qew m.dn=true:=by unfold qew;simp;omega
  have h8:(m.mks.size:Int)≤9:=by omega
  have h5:decide (m.hi < m.lo)=false:=by simp;omega
  generalize (attL m.hi m.lo m.ats.toList && decide (m.ats.size≤200))=fa at HA HP
  generalize mksB m.mks=fc at HC HP
  cases fa
  ·go_enter Tryz.func207,Tryz.ntmps207
   go_wp2_with (first | (go_at_call 255;refine (HK.out _ _).mono ?_;rintro e w' ⟨rfl,rfl⟩) | (go_at_call 257;refine (HA.out _ (bel1 w _)).mono ?_;rintro e w1 ⟨rfl,hb1⟩;have HB1:=hI (qaa (bel1 w _) hb1);clear hb1))
   go_ret
   exact ⟨qac (by rw [HP.out];rfl),HB1.out⟩
  ·go_enter Tryz.func207,Tryz.ntmps207
   go_wp2_with (first | (go_at_call 255;refine (HK.out _ _).mono ?_;rintro e w' ⟨rfl,rfl⟩) | (go_at_call 257;refine (HA.out _ (bel1 w _)).mono ?_;rintro e w1 ⟨rfl,hb1⟩;have q1:w1.cell? ⟨w.heap.size,12,none⟩=some (.slice m.mA m.mks.size m.mC):=(hb1.cell (p:=⟨w.heap.size,12,none⟩) (by simp)).trans (by simp);have HB1:=hI (qaa (bel1 w _) hb1);clear hb1) | (go_at_call 162;refine (HC.out _ HB1.out).mono ?_;rintro e w2 ⟨rfl,rfl⟩))
   go_ret
   exact ⟨qac (by rw [HP.out];simp),HB1.out⟩
 ·have HP:Hid (proB m=false):=by show _=_;unfold proB;rw [decide_eq_false_iff_not.2 hb];simp
  clear HA HC
  cases k1:qew m.lo
  ·clear hb
   go_enter Tryz.func207,Tryz.ntmps207
   go_wp2_with (go_at_call 255;refine (HK.out _ _).mono ?_;rintro e w' ⟨rfl,rfl⟩)
   go_ret
   exact ⟨qac HP.out.symm,bel1 w _⟩
  ·cases k2:qew m.hi
   ·clear hb
    go_enter Tryz.func207,Tryz.ntmps207
    go_wp2_with (go_at_call 255;refine (HK.out _ _).mono ?_;rintro e w' ⟨rfl,rfl⟩)
    go_ret
    exact ⟨qac HP.out.symm,bel1 w _⟩
   ·by_cases h5:m.hi < m.lo
    ·clear hb
     go_enter Tryz.func207,Tryz.ntmps207
     go_wp2_with (go_at_call 255;refine (HK.out _ _).mono ?_;rintro e w' ⟨rfl,rfl⟩)
     go_ret
     exact ⟨qac HP.out.symm,bel1 w _⟩
    ·have h5':decide (m.hi < m.lo)=false:=by simp;omega
     cases k3:qew m.dn
     ·clear hb h5
      go_enter Tryz.func207,Tryz.ntmps207
      go_wp2_with (go_at_call 255;refine (HK.out _ _).mono ?_;rintro e w' ⟨rfl,rfl⟩)
      go_ret
      exact ⟨qac HP.out.symm,bel1 w _⟩
     ·have h9:9 < m.mks.size:=by
       have g1:=k1
       have g2:=k2
       have g3:=k3
       unfold qew at g1 g2 g3
       simp at g1 g2 g3
       omega
      have h9':(9:Int) < (m.mks.size:Int):=by omega
      clear hb h5 h9
      go_enter Tryz.func207,Tryz.ntmps207
      go_wp2_with (go_at_call 255;refine (HK.out _ _).mono ?_;rintro e w' ⟨rfl,rfl⟩)
      go_ret
      exact ⟨qac HP.out.symm,bel1 w _⟩
end Go.Proofs.YtlkmagmdhopcjaaGreat
namespace Go.Proofs.YtlkmagmdhopcjaaGreat
open Go.RowKit Go.Sort Go.Lib
def NameR (k:Int) (e:Ending):Prop:=∃ s:ByteArray,e=.returned (.string s)∧s.toList.isEmpty=decide (k < 1∨10 < k)
set_option maxRecDepth 100000 in
set_option maxHeartbeats 2000000 in
theorem Name_any (k:Int) (w:World) :
 Calls Tryz.prog 138 #[.int .i64 k] w fun e w'=>NameR k e∧Below w.heap.size w w':=by
 by_cases h0:k < 0
 ·go_enter Tryz.func138,Tryz.ntmps138
  go_wp2
  go_ret
  exact ⟨⟨_,rfl,by rw [Lib.toList_data];symm;simp;omega⟩,bel1 w _⟩
 ·by_cases h1:10 < k
  ·have h0':decide (k < 0)=false:=by simp;omega
   have h2:(11:Int)≤k:=by omega
   clear h0
   go_enter Tryz.func138,Tryz.ntmps138
   go_wp2
   go_ret
   exact ⟨⟨_,rfl,by rw [Lib.toList_data];symm;simp;omega⟩,bel1 w _⟩
  ·have:k=0∨k=1∨k=2∨k=3∨k=4∨k=5∨k=6∨k=7∨k=8∨k=9∨k=10:=by omega
   rcases this with rfl | rfl | rfl | rfl | rfl | rfl | rfl | rfl | rfl | rfl | rfl
   all_goals
    go_enter Tryz.func138,Tryz.ntmps138
    go_wp2
    go_ret
    exact ⟨⟨_,rfl,by rw [Lib.toList_data];rfl⟩,bel1 w _⟩
def mayB (m:PM):Bool:=if m.k=10 then proB m else okId m.id && (if m.k=1∨m.k=5 then qbr m.t && carB m else if m.k=3 then qbr m.t && qbr m.bal && carB m else if m.k=6 then qbr m.bal && carB m else if m.k=9 then carB m else if m.k=2 then qbr m.t else if m.k=7 then qbr m.bal && tolB m else qbr m.bal)
set_option maxRecDepth 100000 in
set_option maxHeartbeats 2000000 in
theorem may1_any (m:PM) (w:World) (hm:RdM w m) (hk:m.k=1) :
 Calls Tryz.prog 142 #[msgV m] w fun e w'=>e=.returned (.bool (mayB m))∧Below w.heap.size w w':=by
 have HI:=hI (fun W=>qce m.id W)
 have HT:=hI (fun W=>qeo m.t W)
 have HL:=hI (fun W=>qdb m.bal W)
 have HC:=hI (fun W=>qco m W hm.sp)
 have HD:=hI (fun W=>qdc m W)
 have hne:=qij m.id
 have HM:Hid (mayB m=(okId m.id && (qbr m.t && carB m))):=by show _=_;unfold mayB;simp [hk]
 unfold msgV at HC HD ⊢
 rw [hk] at HC HD ⊢
 generalize okId m.id=fI at hne HM
 generalize qbr m.t=fT at HT HM
 generalize carB m=fC at HC HM
 clear hk hm
 cases fI <;> cases fT <;> cases fC
 all_goals
  go_enter Tryz.func142,Tryz.ntmps142
  go_wp2_with (first | (go_at_call 130;refine (HI.out _).mono ?_;rintro e w' ⟨rfl,rfl⟩) | (go_at_call 208;refine (HT.out _).mono ?_;rintro e w' ⟨rfl,rfl⟩) | (go_at_call 210;refine (HL.out _).mono ?_;rintro e w' ⟨rfl,rfl⟩) | (go_at_call 209;refine (HC.out _).mono ?_;rintro e w1 ⟨rfl,hb1⟩;have HB1:=hI (qaa (bel1 w _) hb1);clear hb1) | (go_at_call 211;refine (HD.out _).mono ?_;rintro e w1 ⟨rfl,hb1⟩;have HB1:=hI (qaa (bel1 w _) hb1);clear hb1))
  go_ret
  first
  | exact ⟨qac (by rw [HM.out];rfl),HB1.out⟩
  | exact ⟨qac (by rw [HM.out];rfl),bel1 w _⟩
set_option maxRecDepth 100000 in
set_option maxHeartbeats 2000000 in
theorem may2_any (m:PM) (w:World) (hm:RdM w m) (hk:m.k=2) :
 Calls Tryz.prog 142 #[msgV m] w fun e w'=>e=.returned (.bool (mayB m))∧Below w.heap.size w w':=by
 have HI:=hI (fun W=>qce m.id W)
 have HT:=hI (fun W=>qeo m.t W)
 have HL:=hI (fun W=>qdb m.bal W)
 have HC:=hI (fun W=>qco m W hm.sp)
 have HD:=hI (fun W=>qdc m W)
 have hne:=qij m.id
 have HM:Hid (mayB m=(okId m.id && (qbr m.t))):=by show _=_;unfold mayB;simp [hk]
 unfold msgV at HC HD ⊢
 rw [hk] at HC HD ⊢
 generalize okId m.id=fI at hne HM
 generalize qbr m.t=fT at HT HM
 clear hk hm
 cases fI <;> cases fT
 all_goals
  go_enter Tryz.func142,Tryz.ntmps142
  go_wp2_with (first | (go_at_call 130;refine (HI.out _).mono ?_;rintro e w' ⟨rfl,rfl⟩) | (go_at_call 208;refine (HT.out _).mono ?_;rintro e w' ⟨rfl,rfl⟩) | (go_at_call 210;refine (HL.out _).mono ?_;rintro e w' ⟨rfl,rfl⟩) | (go_at_call 209;refine (HC.out _).mono ?_;rintro e w1 ⟨rfl,hb1⟩;have HB1:=hI (qaa (bel1 w _) hb1);clear hb1) | (go_at_call 211;refine (HD.out _).mono ?_;rintro e w1 ⟨rfl,hb1⟩;have HB1:=hI (qaa (bel1 w _) hb1);clear hb1))
  go_ret
  first
  | exact ⟨qac (by rw [HM.out];rfl),HB1.out⟩
  | exact ⟨qac (by rw [HM.out];rfl),bel1 w _⟩
set_option maxRecDepth 100000 in
set_option maxHeartbeats 2000000 in
theorem may3_any (m:PM) (w:World) (hm:RdM w m) (hk:m.k=3) :
 Calls Tryz.prog 142 #[msgV m] w fun e w'=>e=.returned (.bool (mayB m))∧Below w.heap.size w w':=by
 have HI:=hI (fun W=>qce m.id W)
 have HT:=hI (fun W=>qeo m.t W)
 have HL:=hI (fun W=>qdb m.bal W)
 have HC:=hI (fun W=>qco m W hm.sp)
 have HD:=hI (fun W=>qdc m W)
 have hne:=qij m.id
 have HM:Hid (mayB m=(okId m.id && (qbr m.t && qbr m.bal && carB m))):=by show _=_;unfold mayB;simp [hk]
 unfold msgV at HC HD ⊢
 rw [hk] at HC HD ⊢
 generalize okId m.id=fI at hne HM
 generalize qbr m.t=fT at HT HM
 generalize qbr m.bal=fL at HL HM
 generalize carB m=fC at HC HM
 clear hk hm
 cases fI <;> cases fT <;> cases fL <;> cases fC
 all_goals
  go_enter Tryz.func142,Tryz.ntmps142
  go_wp2_with (first | (go_at_call 130;refine (HI.out _).mono ?_;rintro e w' ⟨rfl,rfl⟩) | (go_at_call 208;refine (HT.out _).mono ?_;rintro e w' ⟨rfl,rfl⟩) | (go_at_call 210;refine (HL.out _).mono ?_;rintro e w' ⟨rfl,rfl⟩) | (go_at_call 209;refine (HC.out _).mono ?_;rintro e w1 ⟨rfl,hb1⟩;have HB1:=hI (qaa (bel1 w _) hb1);clear hb1) | (go_at_call 211;refine (HD.out _).mono ?_;rintro e w1 ⟨rfl,hb1⟩;have HB1:=hI (qaa (bel1 w _) hb1);clear hb1))
  go_ret
  first
  | exact ⟨qac (by rw [HM.out];rfl),HB1.out⟩
  | exact ⟨qac (by rw [HM.out];rfl),bel1 w _⟩
set_option maxRecDepth 100000 in
set_option maxHeartbeats 2000000 in
theorem may4_any (m:PM) (w:World) (hm:RdM w m) (hk:m.k=4) :
 Calls Tryz.prog 142 #[msgV m] w fun e w'=>e=.returned (.bool (mayB m))∧Below w.heap.size w w':=by
 have HI:=hI (fun W=>qce m.id W)
 have HT:=hI (fun W=>qeo m.t W)
 have HL:=hI (fun W=>qdb m.bal W)
 have HC:=hI (fun W=>qco m W hm.sp)
 have HD:=hI (fun W=>qdc m W)
 have hne:=qij m.id
 have HM:Hid (mayB m=(okId m.id && (qbr m.bal))):=by show _=_;unfold mayB;simp [hk]
 unfold msgV at HC HD ⊢
 rw [hk] at HC HD ⊢
 generalize okId m.id=fI at hne HM
 generalize qbr m.bal=fL at HL HM
 clear hk hm
 cases fI <;> cases fL
 all_goals
  go_enter Tryz.func142,Tryz.ntmps142
  go_wp2_with (first | (go_at_call 130;refine (HI.out _).mono ?_;rintro e w' ⟨rfl,rfl⟩) | (go_at_call 208;refine (HT.out _).mono ?_;rintro e w' ⟨rfl,rfl⟩) | (go_at_call 210;refine (HL.out _).mono ?_;rintro e w' ⟨rfl,rfl⟩) | (go_at_call 209;refine (HC.out _).mono ?_;rintro e w1 ⟨rfl,hb1⟩;have HB1:=hI (qaa (bel1 w _) hb1);clear hb1) | (go_at_call 211;refine (HD.out _).mono ?_;rintro e w1 ⟨rfl,hb1⟩;have HB1:=hI (qaa (bel1 w _) hb1);clear hb1))
  go_ret
  first
  | exact ⟨qac (by rw [HM.out];rfl),HB1.out⟩
  | exact ⟨qac (by rw [HM.out];rfl),bel1 w _⟩
set_option maxRecDepth 100000 in
set_option maxHeartbeats 2000000 in
theorem may5_any (m:PM) (w:World) (hm:RdM w m) (hk:m.k=5) :
 Calls Tryz.prog 142 #[msgV m] w fun e w'=>e=.returned (.bool (mayB m))∧Below w.heap.size w w':=by
 have HI:=hI (fun W=>qce m.id W)
 have HT:=hI (fun W=>qeo m.t W)
 have HL:=hI (fun W=>qdb m.bal W)
 have HC:=hI (fun W=>qco m W hm.sp)
 have HD:=hI (fun W=>qdc m W)
 have hne:=qij m.id
 have HM:Hid (mayB m=(okId m.id && (qbr m.t && carB m))):=by show _=_;unfold mayB;simp [hk]
 unfold msgV at HC HD ⊢
 rw [hk] at HC HD ⊢
 generalize okId m.id=fI at hne HM
 generalize qbr m.t=fT at HT HM
 generalize carB m=fC at HC HM
 clear hk hm
 cases fI <;> cases fT <;> cases fC
 all_goals
  go_enter Tryz.func142,Tryz.ntmps142
  go_wp2_with (first | (go_at_call 130;refine (HI.out _).mono ?_;rintro e w' ⟨rfl,rfl⟩) | (go_at_call 208;refine (HT.out _).mono ?_;rintro e w' ⟨rfl,rfl⟩) | (go_at_call 210;refine (HL.out _).mono ?_;rintro e w' ⟨rfl,rfl⟩) | (go_at_call 209;refine (HC.out _).mono ?_;rintro e w1 ⟨rfl,hb1⟩;have HB1:=hI (qaa (bel1 w _) hb1);clear hb1) | (go_at_call 211;refine (HD.out _).mono ?_;rintro e w1 ⟨rfl,hb1⟩;have HB1:=hI (qaa (bel1 w _) hb1);clear hb1))
  go_ret
  first
  | exact ⟨qac (by rw [HM.out];rfl),HB1.out⟩
  | exact ⟨qac (by rw [HM.out];rfl),bel1 w _⟩
set_option maxRecDepth 100000 in
set_option maxHeartbeats 2000000 in
theorem may6_any (m:PM) (w:World) (hm:RdM w m) (hk:m.k=6) :
 Calls Tryz.prog 142 #[msgV m] w fun e w'=>e=.returned (.bool (mayB m))∧Below w.heap.size w w':=by
 have HI:=hI (fun W=>qce m.id W)
 have HT:=hI (fun W=>qeo m.t W)
 have HL:=hI (fun W=>qdb m.bal W)
 have HC:=hI (fun W=>qco m W hm.sp)
 have HD:=hI (fun W=>qdc m W)
 have hne:=qij m.id
 have HM:Hid (mayB m=(okId m.id && (qbr m.bal && carB m))):=by show _=_;unfold mayB;simp [hk]
 unfold msgV at HC HD ⊢
 rw [hk] at HC HD ⊢
 generalize okId m.id=fI at hne HM
 generalize qbr m.bal=fL at HL HM
 generalize carB m=fC at HC HM
 clear hk hm
 cases fI <;> cases fL <;> cases fC
 all_goals
  go_enter Tryz.func142,Tryz.ntmps142
  go_wp2_with (first | (go_at_call 130;refine (HI.out _).mono ?_;rintro e w' ⟨rfl,rfl⟩) | (go_at_call 208;refine (HT.out _).mono ?_;rintro e w' ⟨rfl,rfl⟩) | (go_at_call 210;refine (HL.out _).mono ?_;rintro e w' ⟨rfl,rfl⟩) | (go_at_call 209;refine (HC.out _).mono ?_;rintro e w1 ⟨rfl,hb1⟩;have HB1:=hI (qaa (bel1 w _) hb1);clear hb1) | (go_at_call 211;refine (HD.out _).mono ?_;rintro e w1 ⟨rfl,hb1⟩;have HB1:=hI (qaa (bel1 w _) hb1);clear hb1))
  go_ret
  first
  | exact ⟨qac (by rw [HM.out];rfl),HB1.out⟩
  | exact ⟨qac (by rw [HM.out];rfl),bel1 w _⟩
set_option maxRecDepth 100000 in
set_option maxHeartbeats 2000000 in
theorem may7_any (m:PM) (w:World) (hm:RdM w m) (hk:m.k=7) :
 Calls Tryz.prog 142 #[msgV m] w fun e w'=>e=.returned (.bool (mayB m))∧Below w.heap.size w w':=by
 have HI:=hI (fun W=>qce m.id W)
 have HT:=hI (fun W=>qeo m.t W)
 have HL:=hI (fun W=>qdb m.bal W)
 have HC:=hI (fun W=>qco m W hm.sp)
 have HD:=hI (fun W=>qdc m W)
 have hne:=qij m.id
 have HM:Hid (mayB m=(okId m.id && (qbr m.bal && tolB m))):=by show _=_;unfold mayB;simp [hk]
 unfold msgV at HC HD ⊢
 rw [hk] at HC HD ⊢
 generalize okId m.id=fI at hne HM
 generalize qbr m.bal=fL at HL HM
 generalize tolB m=fD at HD HM
 clear hk hm
 cases fI <;> cases fL <;> cases fD
 all_goals
  go_enter Tryz.func142,Tryz.ntmps142
  go_wp2_with (first | (go_at_call 130;refine (HI.out _).mono ?_;rintro e w' ⟨rfl,rfl⟩) | (go_at_call 208;refine (HT.out _).mono ?_;rintro e w' ⟨rfl,rfl⟩) | (go_at_call 210;refine (HL.out _).mono ?_;rintro e w' ⟨rfl,rfl⟩) | (go_at_call 209;refine (HC.out _).mono ?_;rintro e w1 ⟨rfl,hb1⟩;have HB1:=hI (qaa (bel1 w _) hb1);clear hb1) | (go_at_call 211;refine (HD.out _).mono ?_;rintro e w1 ⟨rfl,hb1⟩;have HB1:=hI (qaa (bel1 w _) hb1);clear hb1))
  go_ret
  first
  | exact ⟨qac (by rw [HM.out];rfl),HB1.out⟩
  | exact ⟨qac (by rw [HM.out];rfl),bel1 w _⟩
set_option maxRecDepth 100000 in
set_option maxHeartbeats 2000000 in
theorem may8_any (m:PM) (w:World) (hm:RdM w m) (hk:m.k=8) :
 Calls Tryz.prog 142 #[msgV m] w fun e w'=>e=.returned (.bool (mayB m))∧Below w.heap.size w w':=by
 have HI:=hI (fun W=>qce m.id W)
 have HT:=hI (fun W=>qeo m.t W)
 have HL:=hI (fun W=>qdb m.bal W)
 have HC:=hI (fun W=>qco m W hm.sp)
 have HD:=hI (fun W=>qdc m W)
 have hne:=qij m.id
 have HM:Hid (mayB m=(okId m.id && (qbr m.bal))):=by show _=_;unfold mayB;simp [hk]
 unfold msgV at HC HD ⊢
 rw [hk] at HC HD ⊢
 generalize okId m.id=fI at hne HM
 generalize qbr m.bal=fL at HL HM
 clear hk hm
 cases fI <;> cases fL
 all_goals
  go_enter Tryz.func142,Tryz.ntmps142
  go_wp2_with (first | (go_at_call 130;refine (HI.out _).mono ?_;rintro e w' ⟨rfl,rfl⟩) | (go_at_call 208;refine (HT.out _).mono ?_;rintro e w' ⟨rfl,rfl⟩) | (go_at_call 210;refine (HL.out _).mono ?_;rintro e w' ⟨rfl,rfl⟩) | (go_at_call 209;refine (HC.out _).mono ?_;rintro e w1 ⟨rfl,hb1⟩;have HB1:=hI (qaa (bel1 w _) hb1);clear hb1) | (go_at_call 211;refine (HD.out _).mono ?_;rintro e w1 ⟨rfl,hb1⟩;have HB1:=hI (qaa (bel1 w _) hb1);clear hb1))
  go_ret
  first
  | exact ⟨qac (by rw [HM.out];rfl),HB1.out⟩
  | exact ⟨qac (by rw [HM.out];rfl),bel1 w _⟩
set_option maxRecDepth 100000 in
set_option maxHeartbeats 2000000 in
theorem may9_any (m:PM) (w:World) (hm:RdM w m) (hk:m.k=9) :
 Calls Tryz.prog 142 #[msgV m] w fun e w'=>e=.returned (.bool (mayB m))∧Below w.heap.size w w':=by
 have HI:=hI (fun W=>qce m.id W)
 have HT:=hI (fun W=>qeo m.t W)
 have HL:=hI (fun W=>qdb m.bal W)
 have HC:=hI (fun W=>qco m W hm.sp)
 have HD:=hI (fun W=>qdc m W)
 have hne:=qij m.id
 have HM:Hid (mayB m=(okId m.id && (carB m))):=by show _=_;unfold mayB;simp [hk]
 unfold msgV at HC HD ⊢
 rw [hk] at HC HD ⊢
 generalize okId m.id=fI at hne HM
 generalize carB m=fC at HC HM
 clear hk hm
 cases fI <;> cases fC
 all_goals
  go_enter Tryz.func142,Tryz.ntmps142
  go_wp2_with (first | (go_at_call 130;refine (HI.out _).mono ?_;rintro e w' ⟨rfl,rfl⟩) | (go_at_call 208;refine (HT.out _).mono ?_;rintro e w' ⟨rfl,rfl⟩) | (go_at_call 210;refine (HL.out _).mono ?_;rintro e w' ⟨rfl,rfl⟩) | (go_at_call 209;refine (HC.out _).mono ?_;rintro e w1 ⟨rfl,hb1⟩;have HB1:=hI (qaa (bel1 w _) hb1);clear hb1) | (go_at_call 211;refine (HD.out _).mono ?_;rintro e w1 ⟨rfl,hb1⟩;have HB1:=hI (qaa (bel1 w _) hb1);clear hb1))
  go_ret
  first
  | exact ⟨qac (by rw [HM.out];rfl),HB1.out⟩
  | exact ⟨qac (by rw [HM.out];rfl),bel1 w _⟩
set_option maxRecDepth 100000 in
set_option maxHeartbeats 2000000 in
theorem may10_any (m:PM) (w:World) (hm:RdM w m) (hk:m.k=10) :
 Calls Tryz.prog 142 #[msgV m] w fun e w'=>e=.returned (.bool (mayB m))∧Below w.heap.size w w':=by
 have HP:=hI (fun W (h:Below w.heap.size w W)=>qry m W (hm.next h))
 have HM:Hid (mayB m=proB m):=by show _=_;unfold mayB;simp [hk]
 unfold msgV at HP ⊢
 rw [hk] at HP ⊢
 clear hk hm
 go_enter Tryz.func142,Tryz.ntmps142
 go_wp2_with (go_at_call 207;refine (HP.out _ (bel1 w _)).mono ?_;rintro e w1 ⟨rfl,hb1⟩;have HB1:=hI (qaa (bel1 w _) hb1);clear hb1)
 go_ret
 exact ⟨qac HM.out.symm,HB1.out⟩
theorem mayM_any (m:PM) (w:World) (hm:RdM w m) (h1:1≤m.k) (h2:m.k≤10) :
 Calls Tryz.prog 142 #[msgV m] w fun e w'=>e=.returned (.bool (mayB m))∧Below w.heap.size w w':=by
 have:m.k=1∨m.k=2∨m.k=3∨m.k=4∨m.k=5∨m.k=6∨m.k=7∨m.k=8∨m.k=9∨m.k=10:=by omega
 rcases this with h | h | h | h | h | h | h | h | h | h
 ·exact may1_any m w hm h
 ·exact may2_any m w hm h
 ·exact may3_any m w hm h
 ·exact may4_any m w hm h
 ·exact may5_any m w hm h
 ·exact may6_any m w hm h
 ·exact may7_any m w hm h
 ·exact may8_any m w hm h
 ·exact may9_any m w hm h
 ·exact may10_any m w hm h
end Go.Proofs.YtlkmagmdhopcjaaGreat
namespace Go.Proofs.YtlkmagmdhopcjaaGreat
open Go.RowKit Nb
end Go.Proofs.YtlkmagmdhopcjaaGreat
