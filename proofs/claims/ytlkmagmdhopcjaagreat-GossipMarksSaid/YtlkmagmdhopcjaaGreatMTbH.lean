/- Texts that the law leans on. -/
import Derived.Test.YtlkmagmdhopcjaaGreatMDelN
import Derived.Test.YtlkmagmdhopcjaaGreatMSortJ
import Derived.Test.YtlkmagmdhopcjaaGreatMIdentB
import Derived.Test.YtlkmagmdhopcjaaGreatMRead
namespace Go.Proofs.YtlkmagmdhopcjaaGreat
open Go.RowKit Go.Sort Go.Lib
set_option maxRecDepth 100000
def qdx (x:Int):List Value:=[.int .i64 x]
theorem qoq (x:Int):(qdx x).length=1:=rfl
theorem rdJ_T {w:World} {B:Nat} {A:Option Addr} {d:Array Int} (h:RdK qdx 1 B w A d):RdI_R B w A d:=fun h0=>by
 obtain ⟨b,off,e,hl,f⟩:=h h0
 refine ⟨b,off,e,hl,fun t ht=>?_⟩
 rw [f t (by omega),get_flatK _ _ _ _ (by omega)]
 simp [qdx,Nat.mod_one]
def fmK {α:Type} (p:EN→Bool) (f:EN→α) (d:Array EN) (k:Nat):Array α:=(((d.toList.take k).filter p).map f).toArray
theorem fmK_succ {α:Type} {p:EN→Bool} {f:EN→α} {d:Array EN} {k:Nat} (hk:k < d.size):fmK p f d (k + 1)=if p d[k]! = true then (fmK p f d k).push (f d[k]!) else fmK p f d k:=by
 unfold fmK
 rw [List.take_add_one,List.getElem?_eq_getElem (by simpa using hk),List.filter_append]
 rw [getElem!_pos d k hk]
 have e:d.toList[k]'(by simpa using hk)=d[k]:=by simp
 rw [e]
 cases hb:p d[k] <;> simp [hb]
theorem fmK_size {α:Type} (p:EN→Bool) (f:EN→α) (d:Array EN) (k:Nat):(fmK p f d k).size≤k:=by
 unfold fmK
 have:=List.length_filter_le p (d.toList.take k)
 have h2:(d.toList.take k).length≤k:=by rw [List.length_take];omega
 simpa using Nat.le_trans this h2
def fmT {α:Type} (p:EN→Bool) (f:EN→α) (d:Array EN):Array α:=((d.toList.filter p).map f).toArray
theorem fmK_all {α:Type} {p:EN→Bool} {f:EN→α} {d:Array EN}:fmK p f d d.size=fmT p f d:=by
 unfold fmK fmT
 rw [List.take_of_length_le (by simp)]
theorem fmT_size {α:Type} (p:EN→Bool) (f:EN→α) (d:Array EN):(fmT p f d).size≤d.size:=by rw [←fmK_all];exact fmK_size p f d d.size
theorem tid_any (x:EN) (w:World):Calls Tryz.prog 224 #[.agg (encE x).toArray] w fun e w'=>e=.returned (.int .i64 x.id)∧Below w.heap.size w w':=by
 have HB:Hid (∀ o,Below w.heap.size w (w.alloc o)):=hI (fun o=>bel1 w o)
 simp only [encE]
 go_enter Tryz.func224,Tryz.ntmps224
 go_wp2
 go_ret
 exact ⟨rfl,HB.out _⟩
theorem setl1_any (x:EN) (w:World):Calls Tryz.prog 223 #[.agg (encE x).toArray] w fun e w'=>e=.returned (.bool (qee x.ph))∧Below w.heap.size w w':=by
 have HB:Hid (∀ o,Below w.heap.size w (w.alloc o)):=hI (fun o=>bel1 w o)
 simp only [encE]
 go_enter Tryz.func223,Tryz.ntmps223
 go_wp2_with (go_at_call 144;refine (qem _ _).mono ?_;rintro _ _ ⟨rfl,rfl⟩)
 go_ret
 exact ⟨rfl,HB.out _⟩
theorem qza:(Tryz.prog.info? 3).map (fun i=>(i.zero,i.size,i.bytes))=some (some (.int .i64 0),1,8):=by kernel_rfl
set_option maxHeartbeats 8000000 in
theorem thoseI (p:EN→Bool) (g:Nat) (lb:Array Value) (eg:∀ args w,(callFunc g args).run Tryz.prog w=.ok (.enter g args) w) (A:Option Addr) (c:Nat) (d:Array EN) (w:World) (h:RdK encE 10 w.heap.size w A d) (hs:d.size≤1000)
 (hp:∀ W x,Below w.heap.size w W→Calls Tryz.prog g (#[.agg (encE x).toArray] ++ lb) W fun e w'=>e=.returned (.bool (p x))∧Below W.heap.size W w') :
 Calls Tryz.prog 222 #[.slice A d.size c,.func (.func g) #[] lb,.func (.func 224) #[] #[]] w fun e w'=>(∃ A' c',e=.returned (.slice A' (fmT p EN.id d).size c')∧RdK qdx 1 w'.heap.size w' A' (fmT p EN.id d))∧Below w.heap.size w w':=by
 obtain ⟨i0,hi0,hz0,hz1,hz2⟩:=info_parts qza
 have HR:=hI h
 have HP:=hI hp
 clear h hp
 go_enter Tryz.func222,Tryz.ntmps222
 go_wp2
 go_loopw [7,12] (fun m i wr=>∃ (k:Nat) (out:Array (Int)),i=.int .i64 k∧k≤d.size∧out.size≤k∧Hid (out=fmK p EN.id d k)∧wr.ownsRow w.heap.size 3 1 m out.size (flatK qdx 1 out).toList∧Hid (Below w.heap.size w wr)) (fun _ i _=>d.size - (intOf i).toNat)
 case atStart=>exact ⟨0,#[],rfl,Nat.zero_le _,Nat.le_refl _,rfl,qci _ _ _ _ _,hI (Below.refl _ _)⟩
 case round =>
  obtain ⟨k,out,rfl,hk,hos,HO,hown,HB⟩:=hrel
  obtain ⟨Am,cm,rfl,_,_⟩:=qaw hown
  by_cases hlt:k < d.size
  ·have kz:(k:Int) < (d.size:Int):=by omega
   obtain ⟨b,off,rfl,hbl,f⟩:=(HR.out.below HB.out).at_ (i:=k) (by omega)
   have e0:=f 0 (by omega)
   have e1:=f 1 (by omega)
   have e2:=f 2 (by omega)
   have e3:=f 3 (by omega)
   have e4:=f 4 (by omega)
   have e5:=f 5 (by omega)
   have e6:=f 6 (by omega)
   have e7:=f 7 (by omega)
   have e8:=f 8 (by omega)
   have e9:=f 9 (by omega)
   have HC:=hI (fun W (hb:Below w.heap.size w W)=>HP.out W d[k]! hb)
   have HW:=hI (fun W=>tid_any d[k]! W)
   have HS:Hid (fmK p EN.id d (k + 1)=if p d[k]! = true then out.push (EN.id d[k]!) else out):=by
    show _=_
    rw [fmK_succ hlt,HO.out]
   obtain ⟨x,hx⟩:∃ x,d[k]! = x:=⟨_,rfl⟩
   rw [hx] at e0 e1 e2 e3 e4 e5 e6 e7 e8 e9 HC HW HS
   clear f hx
   simp only [Nat.add_zero,encE,List.getElem!_cons_zero,List.getElem!_cons_succ] at e0 e1 e2 e3 e4 e5 e6 e7 e8 e9 HC HW
   obtain ⟨q,hq⟩:∃ q,p x=q:=⟨_,rfl⟩
   rw [hq] at HC HS
   clear hq
   have HX:=hI (BoxW.init wr #[.int .i64 x.id,.int .i64 x.ph,.int .i64 x.qu,.int .i64 x.t,.int .i64 x.bal,.int .i64 x.abal,.int .i64 x.seen,.int .i64 x.age,.string x.pay,.slice x.A x.z.size x.c] 58)
   have HB1:=hI (qab HB.out (.cells #[.int .i64 x.id,.int .i64 x.ph,.int .i64 x.qu,.int .i64 x.t,.int .i64 x.bal,.int .i64 x.abal,.int .i64 x.seen,.int .i64 x.age,.string x.pay,.slice x.A x.z.size x.c] 58))
   cases q
   ·have HN:Hid (out=fmK p EN.id d (k + 1)):=by show _=_;rw [HS.out];rfl
    go_wp2_with fail
    refine (HC.out _ HB1.out).mono ?_
    rintro _ w2 ⟨rfl,hb2⟩
    have hown2:=qje (qje hown (bel1 wr _)) hb2
    have HB2:=hI (qaa HB1.out hb2)
    clear hb2
    go_wp2
    go_roundw
    case rel=>exact ⟨k + 1,out,by go_num,by omega,by omega,HN,hown2,HB2⟩
    case measure=>simp [intOf];omega
   ·have HN:Hid (out.push (EN.id x)=fmK p EN.id d (k + 1)):=by show _=_;rw [HS.out];rfl
    go_wp2_with fail
    refine (HC.out _ HB1.out).mono ?_
    rintro _ w2 ⟨rfl,hb2⟩
    have hown2:=qje (qje hown (bel1 wr _)) hb2
    have HB2:=hI (qaa HB1.out hb2)
    have HX2:=hI (HX.out.next hb2)
    have y0:=HX2.out.at_ 0
    have y1:=HX2.out.at_ 1
    have y2:=HX2.out.at_ 2
    have y3:=HX2.out.at_ 3
    have y4:=HX2.out.at_ 4
    have y5:=HX2.out.at_ 5
    have y6:=HX2.out.at_ 6
    have y7:=HX2.out.at_ 7
    have y8:=HX2.out.at_ 8
    have y9:=HX2.out.at_ 9
    clear hb2
    go_wp2_with fail
    refine (HW.out _).mono ?_
    rintro _ w3 ⟨rfl,hb3⟩
    have hown3:=qje hown2 hb3
    have HB3:=hI (qaa HB2.out hb3)
    clear hb3 y0 y1 y2 y3 y4 y5 y6 y7 y8 y9
    go_wp2_with (at_builtin;refine wpList_append_own _ rfl _ _ 26 rfl w.heap.size 3 i0 (.int .i64 0) 1 8 Tryz.underlying26 hi0 hz0 hz1 hz2 rfl (by decide) _ _ _ rfl (hown3.alloc _) ⟨w3.heap.size,0,none⟩ 1 1 [.int .i64 x.id] rfl rfl (newL w3 _ _) (by simp [Value.oneCell']) (by unfold maxLen;omega) (by omega) (by have:=HB3.out.size;simp;omega) ?_;intro v' w4 hown' hgrow _)
    exact ⟨⟨k + 1,out.push (EN.id x),by go_num,by omega,by simp;omega,HN,(by rw [Array.size_push,qbm qoq];exact hown'),hI (own_app_E HB3.out HB3.out.size hown3 hgrow)⟩,by simp [intOf];omega⟩
  ·have hlt':decide ((k:Int) < (d.size:Int))=false:=by simp;omega
   have hkd:k=d.size:=by omega
   have HE:Hid (out=fmT p EN.id d):=by show _=_;rw [HO.out,hkd,fmK_all]
   go_wp2
   go_ret
   obtain ⟨A',c',e',hr,_⟩:=qaw hown
   have he:=HE.out
   subst he
   exact ⟨⟨A',c',congrArg Ending.returned e',hr⟩,HB.out⟩
theorem tSetl_any (A:Option Addr) (c:Nat) (d:Array EN) (w:World) (h:RdK encE 10 w.heap.size w A d) (hs:d.size≤1000) :
 Calls Tryz.prog 170 #[.slice A d.size c] w fun e w'=>(∃ A' c',e=.returned (.slice A' (fmT (fun x=>qee x.ph) EN.id d).size c')∧RdK qdx 1 w'.heap.size w' A' (fmT (fun x=>qee x.ph) EN.id d))∧Below w.heap.size w w':=by
 have HT:=hI (thoseI (fun x=>qee x.ph) 223 #[] (enters_of Tryz.func223 (by kernel_rfl) rfl) A c d w h hs (fun W x _=>setl1_any x W))
 clear h
 go_enter Tryz.func170,Tryz.ntmps170
 go_wp2_with fail
 refine HT.out.mono ?_
 rintro _ w1 ⟨⟨A',c',rfl,hr⟩,hb⟩
 have HH:=hI hr
 have HB:=hI hb
 clear hr hb
 go_wp2
 go_ret
 exact ⟨⟨A',c',rfl,HH.out⟩,HB.out⟩
end Go.Proofs.YtlkmagmdhopcjaaGreat
