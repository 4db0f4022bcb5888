/- Texts that the law leans on. -/
import Derived.Deep.LoopGhost
import Derived.Shelf.Abstract
import Derived.Test.YtlkmagmdhopcjaaGreatMEnC
namespace Go.Proofs.YtlkmagmdhopcjaaGreat
open Go.RowKit Go.Sort Go.Lib
set_option maxRecDepth 100000
def IdxR_N (p:EN→Bool) (d:Array EN) (r:Int):Prop:=(∃ k:Nat,r=k∧k < d.size∧p d[k]! = true∧∀ j,j < k→p d[j]! = false)∨(r = -1∧∀ j,j < d.size→p d[j]! = false)
set_option maxHeartbeats 4000000 in
theorem IdxN_any (p:EN→Bool) (g:Nat) (lb:Array Value) (eg:∀ args w,(callFunc g args).run Tryz.prog w=.ok (.enter g args) w) (A:Option Addr) (c:Nat) (d:Array EN) (w:World) (h:RdK encE 10 w.heap.size w A d) (hs:d.size≤1000000)
 (hp:∀ W x,Below w.heap.size w W→Calls Tryz.prog g (#[.agg (encE x).toArray] ++ lb) W fun e w'=>e=.returned (.bool (p x))∧Below W.heap.size W w') :
 Calls Tryz.prog 56 #[.slice A d.size c,.func (.func g) #[] lb] w fun e w'=>(∃ r:Int,e=.returned (.int .i64 r)∧IdxR_N p d r)∧Below w.heap.size w w':=by
 have HR:=hI h
 have HP:=hI hp
 clear h hp
 go_enter Tryz.func56,Tryz.ntmps56
 go_wp2
 go_loopw [8] (fun i wr=>∃ k:Nat,i=.int .i64 k∧k≤d.size∧Hid (∀ j,j < k→p d[j]! = false)∧Hid (Below w.heap.size w wr)) (fun i _=>d.size - (intOf i).toNat)
 case atStart=>exact ⟨0,rfl,Nat.zero_le _,hI (fun j hj=>absurd hj (by omega)),hI (Below.refl _ _)⟩
 case round =>
  obtain ⟨k,rfl,hk,hall,HB⟩:=hrel
  by_cases hlt:k < d.size
  ·have kz:(k:Int) < (d.size:Int):=by omega
   obtain ⟨b,off,rfl,hbl,f⟩:=(HR.out.below HB.out).at_ (i:=k) (by omega)
   have e0:=f 0 (by omega)
   have e1:=f 1 (by omega)
   have e2:=f 2 (by omega)
   have e3:=f 3 (by omega)
   have e4:=f 4 (by omega)
   have e5:=f 5 (by omega)
   have e6:=f 6 (by omega)
   have e7:=f 7 (by omega)
   have e8:=f 8 (by omega)
   have e9:=f 9 (by omega)
   have HC:=hI (fun W (hb:Below w.heap.size w W)=>HP.out W d[k]! hb)
   obtain ⟨x,hx⟩:∃ x,d[k]! = x:=⟨_,rfl⟩
   rw [hx] at e0 e1 e2 e3 e4 e5 e6 e7 e8 e9 HC
   have HX:=hI hx
   clear f hx
   simp only [Nat.add_zero,encE,List.getElem!_cons_zero,List.getElem!_cons_succ] at e0 e1 e2 e3 e4 e5 e6 e7 e8 e9 HC
   obtain ⟨q,hq⟩:∃ q,p x=q:=⟨_,rfl⟩
   rw [hq] at HC
   have HQ:=hI hq
   clear hq
   cases q
   ·go_wp2_with fail
    refine (HC.out _ HB.out).mono ?_
    rintro e w' ⟨rfl,hb'⟩
    go_wp2
    go_roundw
    case rel =>
     refine ⟨k + 1,by go_num,by omega,hI (fun j hj=>?_),hI (qaa HB.out hb')⟩
     rcases Nat.lt_or_ge j k with h | h
     ·exact hall.out j h
     ·obtain rfl:j=k:=by omega
      rw [HX.out];exact HQ.out
    case measure=>simp [intOf];omega
   ·go_wp2_with fail
    refine (HC.out _ HB.out).mono ?_
    rintro e w' ⟨rfl,hb'⟩
    go_wp2
    go_ret
    exact ⟨⟨k,rfl,Or.inl ⟨k,rfl,hlt,by rw [HX.out];exact HQ.out,hall.out⟩⟩,qaa HB.out hb'⟩
  ·have hlt':decide ((k:Int) < (d.size:Int))=false:=by simp;omega
   go_wp2
   go_ret
   exact ⟨⟨-1,rfl,Or.inr ⟨rfl,fun j hj=>hall.out j (by omega)⟩⟩,HB.out⟩
def FindR (d:Array EN) (n:Int) (r:EN×Bool):Prop:=(∃ k,k < d.size∧r=(d[k]!,true)∧d[k]!.id=n∧∀ j,j < k→d[j]!.id≠n)∨(r=(default,false)∧∀ j,j < d.size→d[j]!.id≠n)
def FindQ (d:Array EN) (n:Int) (e:Ending):Prop:=∃ r:EN×Bool,e=.returned (.tuple #[.agg (encE r.1).toArray,.bool r.2])∧FindR d n r
theorem FindR.uniq {d:Array EN} {n:Int} {r s:EN×Bool} (h:FindR d n r) (g:FindR d n s):r=s:=by
 rcases h with ⟨k,hk,e1,e2,e3⟩ | ⟨e1,e2⟩ <;> rcases g with ⟨m,hm,f1,f2,f3⟩ | ⟨f1,f2⟩
 ·have:k=m:=by
   rcases Nat.lt_trichotomy k m with h | h | h
   ·exact absurd e2 (f3 k h)
   ·exact h
   ·exact absurd f2 (e3 m h)
  rw [e1,f1,this]
 ·exact absurd e2 (f2 k hk)
 ·exact absurd f2 (e2 m hm)
 ·rw [e1,f1]
theorem RdE.default (w:World):RdE w default:=⟨fun h=>absurd h (by decide),Nat.le_refl _,by decide,by decide⟩
theorem FindR.rd {w:World} {A:Option Addr} {d:Array EN} {n:Int} {r:EN×Bool} (h:FindR d n r) (g:RdT w A d):RdE w r.1:=by
 rcases h with ⟨k,hk,e1,_⟩ | ⟨e1,_⟩
 ·rw [e1];exact g.el k hk
 ·rw [e1];exact RdE.default w
theorem find1_any (x:EN) (n:Int) (g:Nat) (w:World) (hg:g < w.heap.size) (hc:w.cell? ⟨g,0,none⟩=some (.int .i64 n)) :
 Calls Tryz.prog 57 #[.agg (encE x).toArray,.pointer (some ⟨g,0,none⟩)] w fun e w'=>e=.returned (.bool (x.id == n))∧Below w.heap.size w w':=by
 have hc':∀ o,(w.alloc o).cell? ⟨g,0,none⟩=some (.int .i64 n):=fun o=>(World.cell?_alloc_lt w _ _ hg).trans hc
 have HB:Hid (∀ o,Below w.heap.size w (w.alloc o)):=hI (fun o=>bel1 w o)
 simp only [encE]
 go_enter Tryz.func57,Tryz.ntmps57
 go_wp2
 go_ret
 exact ⟨rfl,HB.out _⟩
theorem blkC {W:World} {g:Nat} {cs:Array Value} {T:TypeId} (h:W.heap[g]?=some (.cells cs T (0,0))) (j:Nat):W.cell? ⟨g,j,none⟩=cs[j]?:=by rw [cell_of_row W _ j _ _ (0,0) h]
theorem blkF {W:World} {g:Nat} {cs:Array Value} {T:TypeId} (h:W.heap[g]?=some (.cells cs T (0,0))) (j:Nat):W.frozen? ⟨g,j,none⟩=false:=by simp [World.frozen?,h]
theorem blkL {W:World} {g:Nat} {o:Obj} (h:W.heap[g]?=some o):g < W.heap.size:=by
 rcases Nat.lt_or_ge g W.heap.size with h' | h'
 ·exact h'
 ·rw [Array.getElem?_eq_none h'] at h;cases h
theorem blkB {W W':World} {g:Nat} {o:Obj} (h:W.heap[g]?=some o) (hb:Below W.heap.size W W'):W'.heap[g]?=some o:=(hb.block g (blkL h)).trans h
set_option maxHeartbeats 16000000 in
theorem qsn (A:Option Addr) (c:Nat) (d:Array EN) (n:Int) (w:World) (h:RdT0 w A d) (hs:d.size≤1000000) :
 Calls Tryz.prog 19 #[.slice A d.size c,.int .i64 n] w fun e w'=>FindQ d n e∧Below w.heap.size w w':=by
 have HR:=hI h
 clear h
 have HT:=hI (show ((w.alloc (.cells #[.int .i64 n] 3)).alloc (.cells #[.int .i64 0,.int .i64 0,.int .i64 0,.int .i64 0,.int .i64 0,.int .i64 0,.int .i64 0,.int .i64 0,.string ⟨#[]⟩,.slice none 0 0] 58)).heap[w.heap.size + 1]?=some (.cells #[.int .i64 0,.int .i64 0,.int .i64 0,.int .i64 0,.int .i64 0,.int .i64 0,.int .i64 0,.int .i64 0,.string ⟨#[]⟩,.slice none 0 0] 58 (0,0)) from by rw [show w.heap.size + 1=(w.alloc (.cells #[.int .i64 n] 3)).heap.size by simp];exact heap_alloc_new _ _)
 have HN:=hI (show ∀ W,Below ((w.alloc (.cells #[.int .i64 n] 3)).alloc (.cells #[.int .i64 0,.int .i64 0,.int .i64 0,.int .i64 0,.int .i64 0,.int .i64 0,.int .i64 0,.int .i64 0,.string ⟨#[]⟩,.slice none 0 0] 58)).heap.size ((w.alloc (.cells #[.int .i64 n] 3)).alloc (.cells #[.int .i64 0,.int .i64 0,.int .i64 0,.int .i64 0,.int .i64 0,.int .i64 0,.int .i64 0,.int .i64 0,.string ⟨#[]⟩,.slice none 0 0] 58)) W→w.heap.size < W.heap.size∧W.cell? ⟨w.heap.size,0,none⟩=some (.int .i64 n) from fun W hb=>⟨Nat.lt_of_lt_of_le (by simp;omega) hb.size,(hb.cell (p:=⟨w.heap.size,0,none⟩) (by simp;omega)).trans ((World.cell?_alloc_lt _ _ _ (by simp)).trans (qbb w _ _ 0))⟩)
 have HB:=hI (qab (bel1 w (.cells #[.int .i64 n] 3)) (.cells #[.int .i64 0,.int .i64 0,.int .i64 0,.int .i64 0,.int .i64 0,.int .i64 0,.int .i64 0,.int .i64 0,.string ⟨#[]⟩,.slice none 0 0] 58))
 have HI:=hI (IdxN_any (fun x=>x.id == n) 57 #[.pointer (some ⟨w.heap.size,0,none⟩)] (enters_of Tryz.func57 (by kernel_rfl) rfl) A c d ((w.alloc (.cells #[.int .i64 n] 3)).alloc (.cells #[.int .i64 0,.int .i64 0,.int .i64 0,.int .i64 0,.int .i64 0,.int .i64 0,.int .i64 0,.int .i64 0,.string ⟨#[]⟩,.slice none 0 0] 58)) (HR.out.below HB.out).rd hs (fun W x hb=>find1_any x n w.heap.size W (HN.out W hb).1 (HN.out W hb).2))
 go_enter Tryz.func19,Tryz.ntmps19
 go_wp2_with fail
 refine HI.out.mono ?_
 rintro e w1 ⟨⟨r,rfl,hr⟩,hb1⟩
 have HT1:=hI (blkB HT.out hb1)
 have HB1:=hI (qaa HB.out hb1)
 have z0:=blkC HT1.out 0
 have z1:=blkC HT1.out 1
 have z2:=blkC HT1.out 2
 have z3:=blkC HT1.out 3
 have z4:=blkC HT1.out 4
 have z5:=blkC HT1.out 5
 have z6:=blkC HT1.out 6
 have z7:=blkC HT1.out 7
 have z8:=blkC HT1.out 8
 have z9:=blkC HT1.out 9
 have fz:=blkF HT1.out
 have hlb:w.heap.size + 1 < w1.heap.size:=blkL HT1.out
 clear hb1 HI HT HN
 rcases hr with ⟨k,rfl,hk,hp,hall⟩ | ⟨rfl,hall⟩
 ·have HALL:=hI hall
  have HPK:=hI hp
  clear hall hp
  have kz:(k:Int) < (d.size:Int):=by omega
  obtain ⟨b,off,rfl,hbl0,f⟩:=HR.out.rd.at_ (i:=k) hk
  have hbl:b < w1.heap.size:=by omega
  have g:∀ cc,cc < 10→w1.cell? ⟨b,off + k * 10 + cc,none⟩=some (encE d[k]!)[cc]!:=fun cc hc=>(HB1.out.cell (p:=⟨b,off + k * 10 + cc,none⟩) hbl0).trans (f cc hc)
  have e0:=g 0 (by omega)
  have e1:=g 1 (by omega)
  have e2:=g 2 (by omega)
  have e3:=g 3 (by omega)
  have e4:=g 4 (by omega)
  have e5:=g 5 (by omega)
  have e6:=g 6 (by omega)
  have e7:=g 7 (by omega)
  have e8:=g 8 (by omega)
  have e9:=g 9 (by omega)
  have HFR:Hid (FindR d n (d[k]!,true)):=Or.inl ⟨k,hk,rfl,by simpa using HPK.out,fun j hj=>by simpa using HALL.out j hj⟩
  generalize d[k]! = x at e0 e1 e2 e3 e4 e5 e6 e7 e8 e9 HFR
  simp only [Nat.add_zero,encE,List.getElem!_cons_zero,List.getElem!_cons_succ] at e0 e1 e2 e3 e4 e5 e6 e7 e8 e9
  clear f g
  go_wp2
  refine bodyPost_ret (v:=.tuple #[.agg #[.int .i64 x.id,.int .i64 x.ph,.int .i64 x.qu,.int .i64 x.t,.int .i64 x.bal,.int .i64 x.abal,.int .i64 x.seen,.int .i64 x.age,.string x.pay,.slice x.A x.z.size x.c],.bool true]) (by simp [results,Tryz.results19,go_sem,z0,z1,z2,z3,z4,z5,z6,z7,z8,z9]) rfl ⟨⟨(x,true),rfl,HFR.out⟩,?_⟩
  exact ((((((((((HB1.out.setCell (by first | omega | simp) _).setCell (by first | omega | simp) _).setCell (by first | omega | simp) _).setCell (by first | omega | simp) _).setCell (by first | omega | simp) _).setCell (by first | omega | simp) _).setCell (by first | omega | simp) _).setCell (by first | omega | simp) _).setCell (by first | omega | simp) _).setCell (by first | omega | simp) _)
 ·have HFR:Hid (FindR d n (default,false)):=Or.inr ⟨rfl,fun j hj=>by simpa using hall j hj⟩
  clear hall
  go_wp2
  refine bodyPost_ret (v:=.tuple #[.agg #[.int .i64 0,.int .i64 0,.int .i64 0,.int .i64 0,.int .i64 0,.int .i64 0,.int .i64 0,.int .i64 0,.string ⟨#[]⟩,.slice none 0 0],.bool false]) (by simp [results,Tryz.results19,go_sem,z0,z1,z2,z3,z4,z5,z6,z7,z8,z9]) rfl ⟨⟨(default,false),rfl,HFR.out⟩,?_⟩
  exact ((((((((((HB1.out.setCell (by first | omega | simp) _).setCell (by first | omega | simp) _).setCell (by first | omega | simp) _).setCell (by first | omega | simp) _).setCell (by first | omega | simp) _).setCell (by first | omega | simp) _).setCell (by first | omega | simp) _).setCell (by first | omega | simp) _).setCell (by first | omega | simp) _).setCell (by first | omega | simp) _)
end Go.Proofs.YtlkmagmdhopcjaaGreat
namespace Go.Proofs.YtlkmagmdhopcjaaGreat
open Go.RowKit Go.Sort Go.Lib
set_option maxRecDepth 100000
def sameT (d1 d2:Array EN):Bool:=decide (d1.size=d2.size∧∀ i,i < d1.size→sameP d1[i]! d2[i]!)
theorem qyz (d:Array EN):sameT d d=true:=by unfold sameT;rw [decide_eq_true_eq];exact ⟨rfl,fun i _=>qjy _⟩
end Go.Proofs.YtlkmagmdhopcjaaGreat
