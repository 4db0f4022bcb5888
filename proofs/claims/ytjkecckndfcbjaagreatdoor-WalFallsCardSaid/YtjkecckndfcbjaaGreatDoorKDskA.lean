/- Texts that the law leans on. -/
import Derived.Defers
import Derived.RegionTactic
import Derived.BigRegion
import Derived.Test.YtjkecckndfcbjaaGreatDoorKBase
import Derived.Test.YtjkecckndfcbjaaGreatDoorKErrD
import Derived.Test.YtjkecckndfcbjaaGreatDoorKBoxG
import Derived.Test.YtjkecckndfcbjaaGreatDoorKMsgF
namespace Go.Proofs.YtjkecckndfcbjaaGreatDoor
open Go.RowKit
set_option maxRecDepth 100000
def encD (d:DK):List Value:=[.string d.f0.s,.int .i64 (d.f0.safe:Int),.bool d.f0.half,.string d.f1.s,.int .i64 (d.f1.safe:Int),.bool d.f1.half,.int .i64 (d.room:Int),.int .i64 (d.ops:Int),.int .i64 (d.arm:Int),.bool d.dead]
def DAt (w:World) (g:Nat) (d:DK):Prop:=w.heap[g]?=some (.cells (encD d).toArray 85 (0,0))
structure But (g:Nat) (w w':World):Prop where
 os:w'.os=w.os
 tape:w'.tape=w.tape
 output:w'.output=w.output
 size:w.heap.size≤w'.heap.size
 block:∀ k,k < w.heap.size→k≠g→w'.heap[k]?=w.heap[k]?
theorem But.refl (g:Nat) (w:World):But g w w:=⟨rfl,rfl,rfl,Nat.le_refl _,fun _ _ _=>rfl⟩
theorem But.trans {g:Nat} {a b c:World} (h:But g a b) (k:But g b c):But g a c :=
 ⟨k.os.trans h.os,k.tape.trans h.tape,k.output.trans h.output,Nat.le_trans h.size k.size,fun i hi hg=>(k.block i (Nat.lt_of_lt_of_le hi h.size) hg).trans (h.block i hi hg)⟩
theorem But.of {g:Nat} {w w':World} (h:Below w.heap.size w w'):But g w w':=⟨h.os,h.tape,h.output,h.size,fun k hk _=>h.block k hk⟩
theorem But.below {g B:Nat} {w0 w w':World} (h:But g w w') (hb:Below B w0 w) (hg:B≤g) (hB:B≤w.heap.size):Below B w0 w' :=
 hb.trans ⟨h.os,h.tape,h.output,h.size,fun k hk=>h.block k (Nat.lt_of_lt_of_le hk hB) (by omega)⟩
theorem But.set {g:Nat} {w w':World} (h:But g w w') (j:Nat) (u:Value):But g w (w'.setCell ⟨g,j,none⟩ u) :=
 h.trans ⟨rfl,rfl,rfl,by simp [World.setCell],fun k _ hk=>Below.heap_setCell w' ⟨g,j,none⟩ u k hk⟩
theorem But.alloc {g:Nat} {w w':World} (h:But g w w') (o:Obj):But g w (w'.alloc o):=h.trans (But.of ((Below.refl _ _).alloc (Nat.le_refl _) o))
theorem But.drew {g:Nat} {w w':World} (h:But g w w'):But g w w'.drew:=⟨h.os,h.tape,h.output,h.size,h.block⟩
theorem But.drewN {g:Nat} {w w':World} (h:But g w w') (n:Nat):But g w (w'.drewN n):=⟨h.os,h.tape,h.output,h.size,h.block⟩
theorem But.cell {g:Nat} {w w':World} (h:But g w w') {p:Addr} (hp:p.block < w.heap.size) (hg:p.block≠g):w'.cell? p=w.cell? p:=World.cell?_of_block (w:=w) (h.block p.block hp hg)
theorem But.heap {g:Nat} {w w':World} (h:But g w w') {k:Nat} {o:Obj} (hk:w.heap[k]?=some o) (hg:k≠g):w'.heap[k]?=some o:=(h.block k (qaa hk) hg).trans hk
theorem DAt.lt {w:World} {g:Nat} {d:DK} (h:DAt w g d):g < w.heap.size:=qaa h
theorem DAt.below {w w':World} {g:Nat} {d:DK} (h:DAt w g d) (hb:Below w.heap.size w w'):DAt w' g d:=(hb.block g h.lt).trans h
theorem DAt.drew {w:World} {g:Nat} {d:DK} (h:DAt w g d):DAt w.drew g d:=h
theorem DAt.but {w w':World} {g k:Nat} {d:DK} (h:DAt w g d) (hb:But k w w') (hg:g≠k):DAt w' g d:=hb.heap h hg
theorem DAt.cells {w:World} {g:Nat} {d:DK} (h:DAt w g d):w.cell? ⟨g,0,none⟩=some (.string d.f0.s)∧w.cell? ⟨g,1,none⟩=some (.int .i64 (d.f0.safe:Int))∧w.cell? ⟨g,2,none⟩=some (.bool d.f0.half)∧w.cell? ⟨g,3,none⟩=some (.string d.f1.s)∧w.cell? ⟨g,4,none⟩=some (.int .i64 (d.f1.safe:Int))∧w.cell? ⟨g,5,none⟩=some (.bool d.f1.half)∧w.cell? ⟨g,6,none⟩=some (.int .i64 (d.room:Int))∧w.cell? ⟨g,7,none⟩=some (.int .i64 (d.ops:Int))∧w.cell? ⟨g,8,none⟩=some (.int .i64 (d.arm:Int))∧w.cell? ⟨g,9,none⟩=some (.bool d.dead):=by
 refine ⟨?_,?_,?_,?_,?_,?_,?_,?_,?_,?_⟩ <;> (rw [qad h];rfl)
theorem DAt.frozen {w:World} {g:Nat} {d:DK} (h:DAt w g d) (j:Nat):w.frozen? ⟨g,j,none⟩=false:=Lib.frozen_of_heap h j
theorem DAt.app {w:World} {g:Nat} {d:DK} (h:DAt w g d) (f:Nat) (hf:f=0∨f=1) (s:ByteArray):DAt (w.setCell ⟨g,3 * f,none⟩ (.string s)) g (d.put f ⟨s,(d.get f).safe,(d.get f).half⟩):=by
 rcases hf with rfl | rfl <;> exact qae h _ _
theorem DAt.sync {w:World} {g:Nat} {d:DK} (h:DAt w g d) (f:Nat) (hf:f=0∨f=1) (n:Nat):DAt (w.setCell ⟨g,3 * f + 1,none⟩ (.int .i64 (n:Int))) g (d.put f ⟨(d.get f).s,n,(d.get f).half⟩):=by
 rcases hf with rfl | rfl <;> exact qae h _ _
theorem DAt.half {w:World} {g:Nat} {d:DK} (h:DAt w g d) (f:Nat) (hf:f=0∨f=1) (b:Bool):DAt (w.setCell ⟨g,3 * f + 2,none⟩ (.bool b)) g (d.put f ⟨(d.get f).s,(d.get f).safe,b⟩):=by
 rcases hf with rfl | rfl <;> exact qae h _ _
theorem DAt.ops {w:World} {g:Nat} {d:DK} (h:DAt w g d) (n:Nat):DAt (w.setCell ⟨g,7,none⟩ (.int .i64 (n:Int))) g { d with ops:=n }:=qae h _ _
theorem DAt.arm {w:World} {g:Nat} {d:DK} (h:DAt w g d) (n:Nat):DAt (w.setCell ⟨g,8,none⟩ (.int .i64 (n:Int))) g { d with arm:=n }:=qae h _ _
theorem DAt.dead {w:World} {g:Nat} {d:DK} (h:DAt w g d) (b:Bool):DAt (w.setCell ⟨g,9,none⟩ (.bool b)) g { d with dead:=b }:=qae h _ _
def qie:ByteArray:=⟨#[100,105,115,107]⟩
def logW:ByteArray:=⟨#[108,111,103]⟩
theorem qda (c:Int) (w:World) (h:1≤c∧c≤100) :
 Calls Tryz.prog 32 #[.int .i64 c] w fun e w'=>∃ v,e=.returned v∧Chain w' [qie] c v∧Below w.heap.size w w':=by
 have HN:Hid (∀ W:World,Calls Tryz.prog 64 #[.string ⟨#[100,105,115,107]⟩,.int .i64 c] W fun e w'=>∃ v,e=.returned v∧Chain w' [qie] c v∧Below W.heap.size W w'):=fun W=>qek qie c W (by omega)
 clear h
 go_enter Tryz.func32,Tryz.ntmps32
 go_wp2_with fail
 refine (HN.out _).mono ?_
 rintro e w1 ⟨v,rfl,hch,hb⟩
 have HC:=hI hch
 have HB:=hI hb
 clear hch hb
 go_wp2
 go_ret
 exact ⟨_,rfl,HC.out,HB.out⟩
theorem qhd (d:DK) (g:Nat) (w:World) (h:DAt w g d) (h1:1≤d.room) :
 Calls Tryz.prog 57 #[.pointer (some ⟨g,0,none⟩)] w fun e w'=>e=.returned (.bool true)∧w=w':=by
 obtain ⟨-,-,-,-,-,-,c6,-,-,-⟩:=h.cells
 have hr:0 < d.room:=by omega
 clear h h1
 go_enter Tryz.func57,Tryz.ntmps57
 go_wp2
 go_ret
 exact ⟨rfl,rfl⟩
theorem qqp (d:DK) (g:Nat) (f:Int) (w:World) (h:DAt w g d) (h1:1≤d.room) :
 Calls Tryz.prog 52 #[.pointer (some ⟨g,0,none⟩),.int .i64 f] w fun e w'=>e=.returned (.int .i64 (d.up f:Int))∧w=w':=by
 obtain ⟨-,-,-,-,-,-,-,-,-,c9⟩:=h.cells
 have HM:=hI (qhd d g w h h1)
 have HU:Hid (d.up f=if d.dead then 20 else if f < 0∨2≤f then 2 else 0):=rfl
 generalize d.up f=u at HU ⊢
 generalize d.dead=dd at HU c9
 clear h h1
 go_enter Tryz.func52,Tryz.ntmps52
 cases dd
 ·simp only [Bool.false_eq_true,if_false] at HU
  by_cases h1:f < 0
  ·rw [if_pos (Or.inl h1)] at HU
   go_wp2_with (go_at_call 57;refine HM.out.mono ?_;rintro _ _ ⟨rfl,rfl⟩)
   go_ret
   rw [HU.out]
   exact ⟨rfl,rfl⟩
  ·by_cases h2:2≤f
   ·rw [if_pos (Or.inr h2)] at HU
    go_wp2_with (go_at_call 57;refine HM.out.mono ?_;rintro _ _ ⟨rfl,rfl⟩)
    go_ret
    rw [HU.out]
    exact ⟨rfl,rfl⟩
   ·rw [if_neg (by omega)] at HU
    have h2':decide (2≤f)=false:=decide_eq_false h2
    go_wp2_with (go_at_call 57;refine HM.out.mono ?_;rintro _ _ ⟨rfl,rfl⟩)
    go_ret
    rw [HU.out]
    exact ⟨rfl,rfl⟩
 ·simp only [if_true] at HU
  go_wp2_with (go_at_call 57;refine HM.out.mono ?_;rintro _ _ ⟨rfl,rfl⟩)
  go_ret
  rw [HU.out]
  exact ⟨rfl,rfl⟩
def ErD (c:Nat) (e:Ending) (w':World):Prop:=∃ v,e=.returned v∧ErrV w' (if c=0 then [] else [qie]) (c:Int) v
theorem DAt.noFlt {w:World} {g:Nat} {d:DK} (h:DAt w g d):¬ Flt w g:=fun ⟨cs,f,h1⟩=>by
 rw [h] at h1
 injection h1 with h1
 injection h1 with _ h2
 exact absurd h2 (by decide)
theorem Flt.but {g b:Nat} {w w':World} (hb:But g w w') (hg:¬ Flt w g) (h:Flt w b):Flt w' b:=by
 have hne:b≠g:=fun e=>hg (e ▸ h)
 obtain ⟨cs,f,h⟩:=h
 exact ⟨cs,f,hb.heap h hne⟩
theorem Chain.but {g:Nat} {w w':World} (hb:But g w w') (hg:¬ Flt w g):∀ {ops:List ByteArray} {c:Int} {v:Value},Chain w ops c v→Chain w' ops c v
 | [],_,_,h=>h
 | _ :: _,_,_,⟨b,o,u,h1,h2,h3,h4,h5⟩=>by
   have hne:b≠g:=fun e=>hg (e ▸ h5)
   exact ⟨b,o,u,h1,(hb.cell (p:=⟨b,o,none⟩) (qam h2) hne).trans h2,(hb.cell (p:=⟨b,o + 1,none⟩) (qam h3) hne).trans h3,Chain.but hb hg h4,h5.but hb hg⟩
theorem ErrV.but {g:Nat} {w w':World} (hb:But g w w') (hg:¬ Flt w g) {ops:List ByteArray} {c:Int} {v:Value} (h:ErrV w ops c v):ErrV w' ops c v:=by
 rcases h with h | ⟨h1,h2⟩
 ·exact Or.inl h
 ·exact Or.inr ⟨h1,h2.but hb hg⟩
structure CapF (w:World) (g f p q:Nat):Prop where
 hf:f=0∨f=1
 p0:w.cell? ⟨p,0,none⟩=some (.pointer (some ⟨g,0,none⟩))
 q0:w.cell? ⟨q,0,none⟩=some (.int .i64 (f:Int))
 pg:p≠g
 qg:q≠g
theorem CapF.but {w w':World} {g f p q:Nat} (h:CapF w g f p q) (hb:But g w w'):CapF w' g f p q :=
 ⟨h.hf,(hb.cell (qam h.p0) h.pg).trans h.p0,(hb.cell (qam h.q0) h.qg).trans h.q0,h.pg,h.qg⟩
def CloP (g:Nat) (d':DK) (w:World) (e:Ending) (w':World):Prop:=e=.returned (.tuple #[])∧DAt w' g d'∧But g w w'
theorem qut (d:DK) (g f p q r:Nat) (s:ByteArray) (w:World) (h:DAt w g d) (hok:d.ok) (hs:s.size≤2000000000) (hc:CapF w g f p q) (h2:w.cell? ⟨r,0,none⟩=some (.string s)) :
 Calls Tryz.prog 90 #[.pointer (some ⟨p,0,none⟩),.pointer (some ⟨q,0,none⟩),.pointer (some ⟨r,0,none⟩)] w (CloP g (d.put f ⟨(d.get f).s ++ s,(d.get f).safe,(d.get f).half⟩) w):=by
 obtain ⟨c0,-,-,c3,-,-,-,-,-,-⟩:=h.cells
 have z0:=h.frozen 0
 have z3:=h.frozen 3
 obtain ⟨hf,p0,q0,-,-⟩:=hc
 have H:=hI h
 have z1:d.f0.s.size≤1000000:=by have:=hok.fit;have:=hok.room;omega
 have z2:d.f1.s.size≤1000000:=by have:=hok.fit;have:=hok.room;omega
 clear h hok
 rcases hf with rfl | rfl
 ·go_enter Tryz.func90,Tryz.ntmps90
  go_wp2
  go_region
  go_wp2
  go_end0
  exact ⟨rfl,H.out.app 0 (Or.inl rfl) _,((But.refl g w).set _ _).drew⟩
 ·go_enter Tryz.func90,Tryz.ntmps90
  go_wp2
  go_region
  go_wp2
  go_end0
  exact ⟨rfl,H.out.app 1 (Or.inr rfl) _,((But.refl g w).set _ _).drew⟩
end Go.Proofs.YtjkecckndfcbjaaGreatDoor
namespace Go.Proofs.YtjkecckndfcbjaaGreatDoor
open Nb Crc
abbrev EV:=Int×ByteArray
def snR (ep:Nat) (st:ByteArray):PR:=⟨ep,0,true,0,⟨#[]⟩,st⟩
def evR (ep i:Nat) (e:EV):PR:=⟨ep,i,false,e.1,e.2,⟨#[]⟩⟩
def evsB (ep:Nat):Nat→List EV→List (List UInt8)
 | _,[]=>[]
 | i,e :: l=>recB (evR ep i e) :: evsB ep (i + 1) l
def evsC (ep:Nat):Nat→List EV→Nat
 | _,[]=>0
 | i,e :: l=>if recC (evR ep i e)≠0 then 2 else evsC ep (i + 1) l
def ptB (ep:Nat) (st:ByteArray) (evs:List EV):List (List UInt8):=recB (snR ep st) :: evsB ep 1 evs
def ptF (ep:Nat) (st:ByteArray) (evs:List EV):List UInt8:=(ptB ep st evs).flatMap qak
def ptC (ep:Nat) (st:ByteArray) (evs:List EV):Nat:=if recC (snR ep st)≠0 then 2 else evsC ep 1 evs
structure TL where
 ep:Nat
 st:ByteArray
 evs:List EV
 n:Nat
def zT:TL:=⟨0,⟨#[]⟩,[],0⟩
def qhl (t:TL) (i:Nat) (b:List UInt8):Bool:=decide (rtC b=0) && ((recO b).sn == decide (i=0)) && (decide (i=0) || (decide ((recO b).ep=(t.ep:Int)) && decide ((recO b).sq=(i:Int))))
def qjc (t:TL) (i:Nat) (b:List UInt8):TL:=if i=0 then ⟨(recO b).ep.toNat,(recO b).st,t.evs,t.n + (qak b).length⟩ else ⟨t.ep,t.st,t.evs ++ [((recO b).k,(recO b).dt)],t.n + (qak b).length⟩
def qdm:TL→Nat→List (List UInt8)→TL
 | t,_,[]=>t
 | t,i,b :: l=>if qhl t i b then qdm (qjc t i b) (i + 1) l else t
def qdb (s:List UInt8):TL:=qdm zT 0 (allL s).1
theorem qhe {r:PR} (h:recC r=0):(recB r).length≤18100:=by
 obtain ⟨h1,h2,h3,h4,h5,h6⟩:=qgi h
 have q1:=qaz r.ep.toNat (by omega)
 have q2:=qaz r.sq.toNat (by omega)
 have q3:(qez r.sn).length=1:=by cases r.sn <;> rfl
 unfold recB qdg
 simp only [List.length_append]
 split
 ·rename_i hs
  obtain ⟨-,-,h7⟩:=h5 hs
  have e:r.st.data.toList.length=r.st.size:=by simp
  have q4:=qaz r.st.data.toList.length (by omega)
  simp only [List.length_append]
  omega
 ·rename_i hs
  obtain ⟨h7,h8,h9,-⟩:=h6 (by simpa using hs)
  have e:r.dt.data.toList.length=r.dt.size:=by simp
  have q4:=qaz r.dt.data.toList.length (by omega)
  have q5:=qaz r.k.toNat (by omega)
  simp only [List.length_append]
  omega
theorem quu (ep:Nat):∀ (i:Nat) (l:List EV),(evsB ep i l).length=l.length
 | _,[]=>rfl
 | i,e :: l=>by simp [evsB,quu ep (i + 1) l]
theorem qeg {ep i:Nat} {e:EV} {l:List EV} (h:evsC ep i (e :: l)=0):recC (evR ep i e)=0∧evsC ep (i + 1) l=0:=by
 unfold evsC at h
 split at h
 ·cases h
 ·rename_i h1
  exact ⟨by omega,h⟩
theorem quv {ep:Nat}:∀ (i:Nat) (l:List EV),evsC ep i l=0→∀ b ∈ evsB ep i l,b.length≤20000
 | _,[],_,b,hb=>by cases hb
 | i,e :: l,h,b,hb=>by
   obtain ⟨h1,h2⟩:=qeg h
   rcases List.mem_cons.1 hb with rfl | hb
   ·have:=qhe h1;omega
   ·exact quv (i + 1) l h2 b hb
theorem qli {ep:Nat} {st:ByteArray} {evs:List EV} (h:ptC ep st evs=0):recC (snR ep st)=0∧evsC ep 1 evs=0:=by
 unfold ptC at h
 split at h
 ·cases h
 ·rename_i h1
  exact ⟨by omega,h⟩
theorem ptB_few {ep:Nat} {st:ByteArray} {evs:List EV} (h:ptC ep st evs=0):∀ b ∈ ptB ep st evs,b.length≤20000:=by
 obtain ⟨h1,h2⟩:=qli h
 intro b hb
 rcases List.mem_cons.1 hb with rfl | hb
 ·have:=qhe h1;omega
 ·exact quv 1 evs h2 b hb
theorem qqq {ep:Nat} {st:ByteArray}:∀ (l:List EV) (i n:Nat) (es:List EV),evsC ep (i + 1) l=0→qdm ⟨ep,st,es,n⟩ (i + 1) (evsB ep (i + 1) l)=⟨ep,st,es ++ l,n + ((evsB ep (i + 1) l).flatMap qak).length⟩
 | [],i,n,es,_=>by simp [qdm,evsB]
 | e :: l,i,n,es,h=>by
   obtain ⟨h1,h2⟩:=qeg h
   obtain ⟨r1,r2⟩:=qwc _ h1
   have hn:qhl ⟨ep,st,es,n⟩ (i + 1) (recB (evR ep (i + 1) e))=true:=by
    unfold qhl
    rw [r1,r2]
    simp [evR]
   have hw:qjc ⟨ep,st,es,n⟩ (i + 1) (recB (evR ep (i + 1) e))=⟨ep,st,es ++ [e],n + (qak (recB (evR ep (i + 1) e))).length⟩:=by
    unfold qjc
    rw [r2,if_neg (by omega)]
    rfl
   rw [evsB,qdm,if_pos hn,hw,qqq l (i + 1) _ _ h2,List.flatMap_cons,List.length_append]
   simp only [List.append_assoc,List.cons_append,List.nil_append,Nat.add_assoc]
theorem quw {ep:Nat} {st:ByteArray} {evs:List EV} (h:ptC ep st evs=0):qdm zT 0 (ptB ep st evs)=⟨ep,st,evs,(ptF ep st evs).length⟩:=by
 obtain ⟨h1,h2⟩:=qli h
 obtain ⟨r1,r2⟩:=qwc _ h1
 have hn:qhl zT 0 (recB (snR ep st))=true:=by
  unfold qhl
  rw [r1,r2]
  simp [snR]
 have hw:qjc zT 0 (recB (snR ep st))=⟨ep,st,[],0 + (qak (recB (snR ep st))).length⟩:=by
  unfold qjc
  rw [r2,if_pos rfl]
  rfl
 unfold ptB ptF
 rw [qdm,if_pos hn,hw,qqq evs 0 _ _ h2]
 unfold ptB
 rw [List.flatMap_cons,List.length_append]
 simp
theorem qlj (ep:Nat):∀ (i m:Nat) (l:List EV),(evsB ep i l).take m=evsB ep i (l.take m)
 | _,0,l=>by simp [evsB]
 | _,m + 1,[]=>rfl
 | i,m + 1,e :: l=>by simp [evsB,qlj ep (i + 1) m l]
theorem qqr {ep:Nat}:∀ (i m:Nat) (l:List EV),evsC ep i l=0→evsC ep i (l.take m)=0
 | _,0,l,_=>by simp [evsC]
 | _,m + 1,[],_=>rfl
 | i,m + 1,e :: l,h=>by
   obtain ⟨h1,h2⟩:=qeg h
   rw [List.take_succ_cons,evsC,if_neg (by omega)]
   exact qqr (i + 1) m l h2
theorem qsv {ep i:Nat} {e:EV} {l:List EV} (h:recC (evR ep i e)=0) (h':evsC ep (i + 1) l=0):evsC ep i (e :: l)=0:=by
 unfold evsC
 rw [if_neg (by rw [h];simp)]
 exact h'
theorem evsC_snoc {ep:Nat} (l:List EV) (e:EV):∀ (i n:Nat),n=i + l.length→evsC ep i l=0→recC (evR ep n e)=0→evsC ep i (l ++ [e])=0:=by
 induction l with
 | nil =>
   intro i n hn _ h
   obtain rfl:n=i:=hn
   exact qsv h rfl
 | cons x l ih =>
   intro i n hn h h'
   obtain ⟨h1,h2⟩:=qeg h
   exact qsv h1 (ih (i + 1) n (by rw [hn,List.length_cons];omega) h2 h')
theorem qqs (ep:Nat):∀ (i:Nat) (l:List EV) (e:EV),evsB ep i (l ++ [e])=evsB ep i l ++ [recB (evR ep (i + l.length) e)]
 | i,[],e=>rfl
 | i,x :: l,e=>by
   have e1:i + 1 + l.length=i + (x :: l).length:=by rw [List.length_cons];omega
   rw [List.cons_append,evsB,evsB,qqs ep (i + 1) l e,List.cons_append,e1]
theorem qux (ep:Nat) (st:ByteArray) (l:List EV) (e:EV):ptF ep st (l ++ [e])=ptF ep st l ++ qak (recB (evR ep (l.length + 1) e)):=by
 unfold ptF ptB
 rw [qqs,Nat.add_comm 1]
 simp
theorem quy {ep:Nat} {st:ByteArray} {l:List EV} {e:EV} (h:ptC ep st l=0) (h':recC (evR ep (l.length + 1) e)=0):ptC ep st (l ++ [e])=0:=by
 obtain ⟨h1,h2⟩:=qli h
 unfold ptC
 rw [if_neg (by omega)]
 exact evsC_snoc l e 1 _ (Nat.add_comm _ _) h2 h'
theorem quz {ep:Nat} {st:ByteArray} {l:List EV} (h:ptC ep st l=0) (m:Nat):ptC ep st (l.take m)=0:=by
 obtain ⟨h1,h2⟩:=qli h
 unfold ptC
 rw [if_neg (by omega)]
 exact qqr 1 m l h2
theorem tellL_pt {ep:Nat} {st:ByteArray} {evs:List EV} (h:ptC ep st evs=0):qdb (ptF ep st evs)=⟨ep,st,evs,(ptF ep st evs).length⟩:=by
 unfold qdb
 have:=qla [] (ptB ep st evs) (ptB_few h)
 rw [List.append_nil,qkb] at this
 unfold ptF at *
 rw [this]
 show qdm zT 0 (ptB ep st evs ++ [])=_
 rw [List.append_nil]
 exact quw h
theorem qif:qdb []=zT:=by unfold qdb;rw [qkb];rfl
structure LG where
 d:DK
 file:Nat
 ep:Nat
 sq:Nat
 shut:Bool
def shutG (l:LG) (d:DK) (e:Nat):LG×Nat:=(⟨d,l.file,l.ep,l.sq,l.shut || e == 20⟩,e)
def layG (l:LG) (ep:Nat) (bs:ByteArray) (k:Nat):LG×Nat :=
 if l.d.dead then shutG l l.d 20 else
 if l.d.off then shutG l (qaw l.d (1 - l.file)) 20 else
 if (qaw l.d (1 - l.file)).room < (qaw l.d (1 - l.file)).f0.s.size + (qaw l.d (1 - l.file)).f1.s.size + bs.size then shutG l (qaw l.d (1 - l.file)) 22 else
 if (qaw l.d (1 - l.file)).off then shutG l (appD (qaw l.d (1 - l.file)) (1 - l.file) bs) 20 else
 if (appD (qaw l.d (1 - l.file)) (1 - l.file) bs).off then shutG l (qcx (appD (qaw l.d (1 - l.file)) (1 - l.file) bs) (1 - l.file)) 20 else
 (⟨qcx (appD (qaw l.d (1 - l.file)) (1 - l.file) bs) (1 - l.file),1 - l.file,ep,k,l.shut⟩,0)
def ptA (ep:Nat) (st:ByteArray) (evs:List EV):ByteArray:=⟨(ptF ep st evs).toArray⟩
def layP (l:LG) (ep:Nat) (st:ByteArray) (evs:List EV):LG×Nat:=if ptC ep st evs≠0 then (l,2) else layG l ep (ptA ep st evs) evs.length
structure OG where
 l:LG
 st:ByteArray
 evs:List EV
 e:Nat
def noG (d:DK):LG:=⟨d,0,0,0,false⟩
def qge (d:DK) (e:Nat):OG:=⟨noG d,⟨#[]⟩,[],e⟩
def outG (x:LG×Nat) (st:ByteArray) (evs:List EV):OG:=if x.2≠0 then qge x.1.d x.2 else ⟨x.1,st,evs,0⟩
def qdw (d:DK) (f:Nat) (t:TL):OG:=if t.n=(d.get f).s.size then ⟨⟨d,f,t.ep,t.evs.length,false⟩,t.st,t.evs,0⟩ else if 1000000≤t.ep then qge d 9 else outG (layP ⟨d,f,t.ep,t.evs.length,false⟩ (t.ep + 1) t.st t.evs) t.st t.evs
def qai (f:FL):TL:=qdb f.s.data.toList
def qbz (d:DK) (first:ByteArray):OG :=
 if d.dead then qge d 20 else
 if (qai d.f0).ep=0∧(qai d.f1).ep=0 then outG (layP ⟨d,1,0,0,false⟩ 1 first []) first [] else
 if (qai d.f0).ep=(qai d.f1).ep then qge d 23 else
 if (qai d.f1).ep < (qai d.f0).ep then qdw d 0 (qai d.f0) else qdw d 1 (qai d.f1)
def addG (l:LG) (e:EV):LG×Nat :=
 if l.shut then (l,20) else if 1000000≤l.sq then (l,9) else if recC (evR l.ep (l.sq + 1) e)≠0 then (l,2) else
 if l.d.dead then shutG l l.d 20 else
 if l.d.room < l.d.f0.s.size + l.d.f1.s.size + (qak (recB (evR l.ep (l.sq + 1) e))).length then (l,22) else
 if l.d.off then shutG l (appD l.d l.file ⟨(qak (recB (evR l.ep (l.sq + 1) e))).toArray⟩) 20 else
 (⟨appD l.d l.file ⟨(qak (recB (evR l.ep (l.sq + 1) e))).toArray⟩,l.file,l.ep,l.sq + 1,l.shut⟩,0)
def qgo (l:LG):LG×Nat:=if l.shut then (l,20) else if l.d.dead then shutG l l.d 20 else shutG l (qcx l.d l.file) (offC l.d)
def qbt (l:LG) (st:ByteArray):LG×Nat:=if l.shut then (l,20) else if 1000000≤l.ep then (l,9) else layP l (l.ep + 1) st []
end Go.Proofs.YtjkecckndfcbjaaGreatDoor
namespace Go.Proofs.YtjkecckndfcbjaaGreatDoor
open Go.RowKit
set_option maxRecDepth 100000
theorem qjq {W:World} {n:Nat} {v:Value} {t:TypeId} (hn:W.heap.size=n):((W.alloc (.cells #[v] t)).drew).cell? ⟨n,0,none⟩=some v:=by
 subst hn
 show (W.alloc (.cells #[v] t)).cell? _=_
 simp
theorem sync1_any (d:DK) (g f p q:Nat) (w:World) (h:DAt w g d) (hc:CapF w g f p q) :
 Calls Tryz.prog 93 #[.pointer (some ⟨p,0,none⟩),.pointer (some ⟨q,0,none⟩)] w (CloP g (d.put f ⟨(d.get f).s,(d.get f).s.size,(d.get f).half⟩) w):=by
 obtain ⟨c0,c1,-,c3,c4,-,-,-,-,-⟩:=h.cells
 have z1:=h.frozen 1
 have z4:=h.frozen 4
 obtain ⟨hf,p0,q0,-,-⟩:=hc
 have H:=hI h
 clear h
 rcases hf with rfl | rfl
 ·go_enter Tryz.func93,Tryz.ntmps93
  go_wp2
  go_region
  go_wp2
  go_end0
  exact ⟨rfl,H.out.sync 0 (Or.inl rfl) _,((But.refl g w).set _ _).drew⟩
 ·go_enter Tryz.func93,Tryz.ntmps93
  go_wp2
  go_region
  go_wp2
  go_end0
  exact ⟨rfl,H.out.sync 1 (Or.inr rfl) _,((But.refl g w).set _ _).drew⟩
theorem sync2_any (w:World):Calls Tryz.prog 94 #[] w fun e w'=>e=.returned (.tuple #[])∧w=w':=by
 go_enter Tryz.func94,Tryz.ntmps94
 go_wp2
 go_end0
 exact ⟨rfl,rfl⟩
theorem DAt.empty {w:World} {g:Nat} {d:DK} (h:DAt w g d) (f:Nat) (hf:f=0∨f=1):DAt (((w.setCell ⟨g,3 * f,none⟩ (.string ⟨#[]⟩)).setCell ⟨g,3 * f + 1,none⟩ (.int .i64 0)).setCell ⟨g,3 * f + 2,none⟩ (.bool false)) g (d.put f zF):=by
 rcases hf with rfl | rfl
 ·exact qae (qae (qae h _ _) _ _) _ _
 ·exact qae (qae (qae h _ _) _ _) _ _
theorem qxq (d:DK) (g f p q:Nat) (w:World) (h:DAt w g d) (hc:CapF w g f p q) :
 Calls Tryz.prog 104 #[.pointer (some ⟨p,0,none⟩),.pointer (some ⟨q,0,none⟩)] w (CloP g (d.put f zF) w):=by
 obtain ⟨c0,c1,c2,c3,c4,c5,-,-,-,-⟩:=h.cells
 have z0:=h.frozen 0
 have z1:=h.frozen 1
 have z2:=h.frozen 2
 have z3:=h.frozen 3
 have z4:=h.frozen 4
 have z5:=h.frozen 5
 have hlt:=h.lt
 obtain ⟨hf,p0,q0,-,-⟩:=hc
 have H:=hI h
 clear h
 rcases hf with rfl | rfl
 ·go_enter Tryz.func104,Tryz.ntmps104
  go_wp2
  go_region
  go_wp2
  go_end0
  exact ⟨rfl,H.out.empty 0 (Or.inl rfl),((((But.refl g w).set _ _).set _ _).set _ _).drew⟩
 ·go_enter Tryz.func104,Tryz.ntmps104
  go_wp2
  go_region
  go_wp2
  go_end0
  exact ⟨rfl,H.out.empty 1 (Or.inr rfl),((((But.refl g w).set _ _).set _ _).set _ _).drew⟩
theorem qxr (d:DK) (g f p q:Nat) (w:World) (h:DAt w g d) (hc:CapF w g f p q) :
 Calls Tryz.prog 105 #[.pointer (some ⟨p,0,none⟩),.pointer (some ⟨q,0,none⟩)] w (CloP g (d.put f ⟨(d.get f).s,(d.get f).safe,true⟩) w):=by
 obtain ⟨-,-,c2,-,-,c5,-,-,-,-⟩:=h.cells
 have z2:=h.frozen 2
 have z5:=h.frozen 5
 obtain ⟨hf,p0,q0,-,-⟩:=hc
 have H:=hI h
 clear h
 rcases hf with rfl | rfl
 ·go_enter Tryz.func105,Tryz.ntmps105
  go_wp2
  go_region
  go_wp2
  go_end0
  exact ⟨rfl,H.out.half 0 (Or.inl rfl) _,((But.refl g w).set _ _).drew⟩
 ·go_enter Tryz.func105,Tryz.ntmps105
  go_wp2
  go_region
  go_wp2
  go_end0
  exact ⟨rfl,H.out.half 1 (Or.inr rfl) _,((But.refl g w).set _ _).drew⟩
theorem qfh {c:Nat} {v:Value} {w':World} (hc:c≠0) (h:Chain w' [qie] (c:Int) v):ErD c (.returned v) w':=⟨v,rfl,Or.inr ⟨by omega,by rw [if_neg hc];exact h⟩⟩
theorem qqt (w':World):ErD 0 (.returned .nilIface) w':=⟨_,rfl,Or.inl ⟨rfl,rfl,rfl⟩⟩
theorem qgt (d:DK) (f:Nat) (x:FL):(d.put f x).ops=d.ops:=by unfold DK.put;split <;> rfl
theorem qdk (d:DK) (g p:Nat) (u:FrameMode) (w:World) (h:DAt w g d) (n:Nat) (hn:d.ops=n) (ho:n≤1000000000) (hp:w.cell? ⟨p,0,none⟩=some (.pointer (some ⟨g,0,none⟩))) :
 CallsD Tryz.prog 128 #[.pointer (some ⟨p,0,none⟩)] u w fun e u' w'=>u'=u∧(e=.returned (.tuple #[])∧w'=w.setCell ⟨g,7,none⟩ (.int .i64 ((n:Int) + 1))):=by
 obtain ⟨-,-,-,-,-,-,-,c7,-,-⟩:=h.cells
 rw [hn] at c7
 have z7:=h.frozen 7
 clear h hn
 go_enter_d Tryz.func128,Tryz.ntmps128
 go_wp2
 go_end0
 exact ⟨rfl,rfl⟩
set_option maxHeartbeats 2000000 in
theorem opA_any (d:DK) (g f p q r:Nat) (s:ByteArray) (w:World) (h:DAt w g d) (hok:d.ok) (ho:d.ops≤1000000000) (hc:CapF w g f p q) (hs:s.size≤2000000000) (h2:w.cell? ⟨r,0,none⟩=some (.string s)) (hr:r≠g) :
 Calls Tryz.prog 91 #[.pointer (some ⟨g,0,none⟩),.func (.func 90) #[] #[.pointer (some ⟨p,0,none⟩),.pointer (some ⟨q,0,none⟩),.pointer (some ⟨r,0,none⟩)],.func (.func 90) #[] #[.pointer (some ⟨p,0,none⟩),.pointer (some ⟨q,0,none⟩),.pointer (some ⟨r,0,none⟩)]] w fun e w'=>ErD (offC d) e w'∧DAt w' g (appD d f s)∧But g w w':=by
 have hmf:∀ (fn:Fn) (first cap:Array Value) (w:World),(Instr.makeFunc fn first cap).run Tryz.prog w=.ok (.func fn first cap) w:=fun _ _ _ _=>rfl
 obtain ⟨-,-,-,-,-,-,-,c7,c8,c9⟩:=h.cells
 have z8:=h.frozen 8
 have z9:=h.frozen 9
 have hlt:=h.lt
 have H:=hI h
 have HC:=hI hc
 have HOK:=hI hok
 have harm:=hok.arm
 have H2:=hI h2
 have HS:=hI hs
 by_cases hoff:d.arm=1
 ·have HO:Hid (offC d=20):=by show _=_;unfold offC DK.off;rw [if_pos (by simpa using hoff)]
  have HP:Hid (appD d f s={ (({ d with arm:=0,dead:=true }:DK).put f ⟨(d.get f).s ++ s,(d.get f).safe,(d.get f).half⟩) with ops:=d.ops + 1 }):=by
   show _=_
   obtain ⟨hf,-⟩:=hc
   have hb:d.off=true:=by unfold DK.off;simpa using hoff
   rcases hf with rfl | rfl <;> simp [appD,DK.goes,DK.put,DK.get,hoff]
  have hoff':((d.arm:Int) == 1)=true:=by simp;omega
  have HT:=hI (fun (W:World)=>qda 20 W (by omega))
  have HOK1:Hid ({ d with arm:=0,dead:=true }:DK).ok:=⟨hok.a,hok.b,hok.fit,hok.one,hok.room,Nat.zero_le _⟩
  clear h hc hok h2 hs hoff
  go_enter_defers Tryz.func91,Tryz.ntmps91
  go_wp2
  go_region
  have D1:Hid (DAt ((((w.setCell ⟨g,8,none⟩ (.int .i64 0)).setCell ⟨g,9,none⟩ (.bool true)).alloc (.cells #[.pointer (some ⟨g,0,none⟩)] 25)).drew) g { d with arm:=0,dead:=true }):=by
   have D0:DAt ((w.setCell ⟨g,8,none⟩ (.int .i64 0)).setCell ⟨g,9,none⟩ (.bool true)) g { d with arm:=0,dead:=true }:=(H.out.arm 0).dead true
   exact (D0.below (bel1 _ _)).drew
  have B1:Hid (But g w ((((w.setCell ⟨g,8,none⟩ (.int .i64 0)).setCell ⟨g,9,none⟩ (.bool true)).alloc (.cells #[.pointer (some ⟨g,0,none⟩)] 25)).drew)):=((((But.refl g w).set 8 _).set 9 _).alloc _).drew
  have X1:Hid (((((w.setCell ⟨g,8,none⟩ (.int .i64 0)).setCell ⟨g,9,none⟩ (.bool true)).alloc (.cells #[.pointer (some ⟨g,0,none⟩)] 25)).drew).cell? ⟨w.heap.size,0,none⟩=some (.pointer (some ⟨g,0,none⟩))):=qjq (by simp [World.setCell])
  generalize (((w.setCell ⟨g,8,none⟩ (.int .i64 0)).setCell ⟨g,9,none⟩ (.bool true)).alloc (.cells #[.pointer (some ⟨g,0,none⟩)] 25)).drew=W1 at D1 B1 X1 ⊢
  go_wp2_with (go_at_call 90;refine (qut _ g f p q r s W1 D1.out HOK1.out HS.out (HC.out.but B1.out) ((B1.out.cell (qam H2.out) hr).trans H2.out)).mono ?_;rintro _ w2 ⟨rfl,hd2,hb2⟩;have D2:=hI hd2;have B2:=hI (B1.out.trans hb2);have X2:=hI ((hb2.cell (qam X1.out) (Nat.ne_of_gt hlt)).trans X1.out);clear hd2 hb2)
  go_wp2_with (go_at_call 32;refine (HT.out _).mono ?_;rintro e w3 ⟨v,rfl,hch,hb3⟩;have HCH:=hI hch;have B3:=hI (B2.out.trans (But.of hb3));have D3:=hI (D2.out.below hb3);have X3:=hI ((hb3.cell (qam X2.out)).trans X2.out);clear hch hb3)
  refine leaves_cons (f:=128) (args:=#[.pointer (some ⟨w.heap.size,0,none⟩)]) (by simp) (by simp [go_sem]) ?_
  refine (qdk _ g w.heap.size .returning w3 D3.out d.ops (qgt _ _ _) ho X3.out).mono ?_
  rintro e u' w'' ⟨rfl,rfl,rfl⟩
  have D4:DAt (w3.setCell ⟨g,7,none⟩ (.int .i64 ((d.ops:Int) + 1))) g (appD d f s):=by rw [HP.out];exact D3.out.ops (d.ops + 1)
  exact ⟨_,results_tmp rfl _ _ _,by rw [HO.out];exact qfh (by decide) (HCH.out.but ((But.refl g w3).set 7 _) D3.out.noFlt),D4,B3.out.set 7 _⟩
 ·have HO:Hid (offC d=0):=by show _=_;unfold offC DK.off;rw [if_neg (by simpa using hoff)]
  have HP:Hid (appD d f s={ (({ d with arm:=d.arm - 1 }:DK).put f ⟨(d.get f).s ++ s,(d.get f).safe,(d.get f).half⟩) with ops:=d.ops + 1 }):=by
   show _=_
   obtain ⟨hf,-⟩:=hc
   have hb:d.off=false:=by unfold DK.off;simpa using hoff
   rcases hf with rfl | rfl <;> simp [appD,DK.goes,DK.put,DK.get,hoff]
  have hoff':((d.arm:Int) == 1)=false:=by simp;omega
  have HOK1:Hid ({ d with arm:=d.arm - 1 }:DK).ok:=⟨hok.a,hok.b,hok.fit,hok.one,hok.room,by show d.arm - 1≤1000000;omega⟩
  obtain ⟨m,hm⟩:∃ m:Nat,d.arm - 1=m:=⟨_,rfl⟩
  have hmx:max ((d.arm:Int) - 1) 0=(m:Int):=by omega
  rw [hm] at HOK1 HP
  clear h hc hok h2 hs hm
  go_enter_defers Tryz.func91,Tryz.ntmps91
  go_wp2
  go_region
  have D1:Hid (DAt (((w.setCell ⟨g,8,none⟩ (.int .i64 (m:Int))).alloc (.cells #[.pointer (some ⟨g,0,none⟩)] 25)).drew) g { d with arm:=m }):=((H.out.arm m).below (bel1 _ _)).drew
  have B1:Hid (But g w (((w.setCell ⟨g,8,none⟩ (.int .i64 (m:Int))).alloc (.cells #[.pointer (some ⟨g,0,none⟩)] 25)).drew)):=(((But.refl g w).set 8 _).alloc _).drew
  have X1:Hid ((((w.setCell ⟨g,8,none⟩ (.int .i64 (m:Int))).alloc (.cells #[.pointer (some ⟨g,0,none⟩)] 25)).drew).cell? ⟨w.heap.size,0,none⟩=some (.pointer (some ⟨g,0,none⟩))):=qjq (by simp [World.setCell])
  generalize ((w.setCell ⟨g,8,none⟩ (.int .i64 (m:Int))).alloc (.cells #[.pointer (some ⟨g,0,none⟩)] 25)).drew=W1 at D1 B1 X1 ⊢
  go_wp2_with (go_at_call 90;refine (qut _ g f p q r s W1 D1.out HOK1.out HS.out (HC.out.but B1.out) ((B1.out.cell (qam H2.out) hr).trans H2.out)).mono ?_;rintro _ w2 ⟨rfl,hd2,hb2⟩;have D2:=hI hd2;have B2:=hI (B1.out.trans hb2);have X2:=hI ((hb2.cell (qam X1.out) (Nat.ne_of_gt hlt)).trans X1.out);clear hd2 hb2)
  refine leaves_cons (f:=128) (args:=#[.pointer (some ⟨w.heap.size,0,none⟩)]) (by simp) (by simp [go_sem]) ?_
  refine (qdk _ g w.heap.size .returning w2 D2.out d.ops (qgt _ _ _) ho X2.out).mono ?_
  rintro e u' w'' ⟨rfl,rfl,rfl⟩
  have D4:DAt (w2.setCell ⟨g,7,none⟩ (.int .i64 ((d.ops:Int) + 1))) g (appD d f s):=by rw [HP.out];exact D2.out.ops (d.ops + 1)
  exact ⟨_,results_tmp rfl _ _ _,by rw [HO.out];exact qqt _,D4,B2.out.set 7 _⟩
set_option maxHeartbeats 2000000 in
theorem opS_any (d:DK) (g f p q:Nat) (w:World) (h:DAt w g d) (hok:d.ok) (ho:d.ops≤1000000000) (hc:CapF w g f p q) :
 Calls Tryz.prog 91 #[.pointer (some ⟨g,0,none⟩),.func (.func 93) #[] #[.pointer (some ⟨p,0,none⟩),.pointer (some ⟨q,0,none⟩)],.func (.func 94) #[] #[]] w fun e w'=>ErD (offC d) e w'∧DAt w' g (qcx d f)∧But g w w':=by
 have hmf:∀ (fn:Fn) (first cap:Array Value) (w:World),(Instr.makeFunc fn first cap).run Tryz.prog w=.ok (.func fn first cap) w:=fun _ _ _ _=>rfl
 obtain ⟨-,-,-,-,-,-,-,c7,c8,c9⟩:=h.cells
 have z8:=h.frozen 8
 have z9:=h.frozen 9
 have hlt:=h.lt
 have H:=hI h
 have HC:=hI hc
 have HOK:=hI hok
 have harm:=hok.arm
 by_cases hoff:d.arm=1
 ·have HO:Hid (offC d=20):=by show _=_;unfold offC DK.off;rw [if_pos (by simpa using hoff)]
  have HP:Hid (qcx d f={ ({ d with arm:=0,dead:=true }:DK) with ops:=d.ops + 1 }):=by
   show _=_
   obtain ⟨hf,-⟩:=hc
   have hb:d.off=true:=by unfold DK.off;simpa using hoff
   rcases hf with rfl | rfl <;> simp [qcx,hb,DK.goes,hoff]
  have hoff':((d.arm:Int) == 1)=true:=by simp;omega
  have HT:=hI (fun (W:World)=>qda 20 W (by omega))
  have HOK1:Hid ({ d with arm:=0,dead:=true }:DK).ok:=⟨hok.a,hok.b,hok.fit,hok.one,hok.room,Nat.zero_le _⟩
  clear h hc hok hoff
  go_enter_defers Tryz.func91,Tryz.ntmps91
  go_wp2
  go_region
  have D1:Hid (DAt ((((w.setCell ⟨g,8,none⟩ (.int .i64 0)).setCell ⟨g,9,none⟩ (.bool true)).alloc (.cells #[.pointer (some ⟨g,0,none⟩)] 25)).drew) g { d with arm:=0,dead:=true }):=by
   have D0:DAt ((w.setCell ⟨g,8,none⟩ (.int .i64 0)).setCell ⟨g,9,none⟩ (.bool true)) g { d with arm:=0,dead:=true }:=(H.out.arm 0).dead true
   exact (D0.below (bel1 _ _)).drew
  have B1:Hid (But g w ((((w.setCell ⟨g,8,none⟩ (.int .i64 0)).setCell ⟨g,9,none⟩ (.bool true)).alloc (.cells #[.pointer (some ⟨g,0,none⟩)] 25)).drew)):=((((But.refl g w).set 8 _).set 9 _).alloc _).drew
  have X1:Hid (((((w.setCell ⟨g,8,none⟩ (.int .i64 0)).setCell ⟨g,9,none⟩ (.bool true)).alloc (.cells #[.pointer (some ⟨g,0,none⟩)] 25)).drew).cell? ⟨w.heap.size,0,none⟩=some (.pointer (some ⟨g,0,none⟩))):=qjq (by simp [World.setCell])
  generalize (((w.setCell ⟨g,8,none⟩ (.int .i64 0)).setCell ⟨g,9,none⟩ (.bool true)).alloc (.cells #[.pointer (some ⟨g,0,none⟩)] 25)).drew=W1 at D1 B1 X1 ⊢
  go_wp2_with (go_at_call 94;refine (sync2_any W1).mono ?_;rintro _ w2 ⟨rfl,rfl⟩;have D2:=D1;have B2:=B1;have X2:=X1)
  go_wp2_with (go_at_call 32;refine (HT.out _).mono ?_;rintro e w3 ⟨v,rfl,hch,hb3⟩;have HCH:=hI hch;have B3:=hI (B2.out.trans (But.of hb3));have D3:=hI (D2.out.below hb3);have X3:=hI ((hb3.cell (qam X2.out)).trans X2.out);clear hch hb3)
  refine leaves_cons (f:=128) (args:=#[.pointer (some ⟨w.heap.size,0,none⟩)]) (by simp) (by simp [go_sem]) ?_
  refine (qdk _ g w.heap.size .returning w3 D3.out d.ops rfl ho X3.out).mono ?_
  rintro e u' w'' ⟨rfl,rfl,rfl⟩
  have D4:DAt (w3.setCell ⟨g,7,none⟩ (.int .i64 ((d.ops:Int) + 1))) g (qcx d f):=by rw [HP.out];exact D3.out.ops (d.ops + 1)
  exact ⟨_,results_tmp rfl _ _ _,by rw [HO.out];exact qfh (by decide) (HCH.out.but ((But.refl g w3).set 7 _) D3.out.noFlt),D4,B3.out.set 7 _⟩
 ·have HO:Hid (offC d=0):=by show _=_;unfold offC DK.off;rw [if_neg (by simpa using hoff)]
  have HP:Hid (qcx d f={ (({ d with arm:=d.arm - 1 }:DK).put f ⟨(d.get f).s,(d.get f).s.size,(d.get f).half⟩) with ops:=d.ops + 1 }):=by
   show _=_
   obtain ⟨hf,-⟩:=hc
   have hb:d.off=false:=by unfold DK.off;simpa using hoff
   rcases hf with rfl | rfl <;> simp [qcx,hb,DK.goes,DK.put,DK.get,hoff]
  have hoff':((d.arm:Int) == 1)=false:=by simp;omega
  have HOK1:Hid ({ d with arm:=d.arm - 1 }:DK).ok:=⟨hok.a,hok.b,hok.fit,hok.one,hok.room,by show d.arm - 1≤1000000;omega⟩
  obtain ⟨m,hm⟩:∃ m:Nat,d.arm - 1=m:=⟨_,rfl⟩
  have hmx:max ((d.arm:Int) - 1) 0=(m:Int):=by omega
  rw [hm] at HOK1 HP
  clear h hc hok hm
  go_enter_defers Tryz.func91,Tryz.ntmps91
  go_wp2
  go_region
  have D1:Hid (DAt (((w.setCell ⟨g,8,none⟩ (.int .i64 (m:Int))).alloc (.cells #[.pointer (some ⟨g,0,none⟩)] 25)).drew) g { d with arm:=m }):=((H.out.arm m).below (bel1 _ _)).drew
  have B1:Hid (But g w (((w.setCell ⟨g,8,none⟩ (.int .i64 (m:Int))).alloc (.cells #[.pointer (some ⟨g,0,none⟩)] 25)).drew)):=(((But.refl g w).set 8 _).alloc _).drew
  have X1:Hid ((((w.setCell ⟨g,8,none⟩ (.int .i64 (m:Int))).alloc (.cells #[.pointer (some ⟨g,0,none⟩)] 25)).drew).cell? ⟨w.heap.size,0,none⟩=some (.pointer (some ⟨g,0,none⟩))):=qjq (by simp [World.setCell])
  generalize ((w.setCell ⟨g,8,none⟩ (.int .i64 (m:Int))).alloc (.cells #[.pointer (some ⟨g,0,none⟩)] 25)).drew=W1 at D1 B1 X1 ⊢
  go_wp2_with (go_at_call 93;refine (sync1_any _ g f p q W1 D1.out (HC.out.but B1.out)).mono ?_;rintro _ w2 ⟨rfl,hd2,hb2⟩;have D2:=hI hd2;have B2:=hI (B1.out.trans hb2);have X2:=hI ((hb2.cell (qam X1.out) (Nat.ne_of_gt hlt)).trans X1.out);clear hd2 hb2)
  refine leaves_cons (f:=128) (args:=#[.pointer (some ⟨w.heap.size,0,none⟩)]) (by simp) (by simp [go_sem]) ?_
  refine (qdk _ g w.heap.size .returning w2 D2.out d.ops (qgt _ _ _) ho X2.out).mono ?_
  rintro e u' w'' ⟨rfl,rfl,rfl⟩
  have D4:DAt (w2.setCell ⟨g,7,none⟩ (.int .i64 ((d.ops:Int) + 1))) g (qcx d f):=by rw [HP.out];exact D2.out.ops (d.ops + 1)
  exact ⟨_,results_tmp rfl _ _ _,by rw [HO.out];exact qqt _,D4,B2.out.set 7 _⟩
set_option maxHeartbeats 2000000 in
theorem opR_any (d:DK) (g f p q:Nat) (w:World) (h:DAt w g d) (hok:d.ok) (ho:d.ops≤1000000000) (hc:CapF w g f p q) :
 Calls Tryz.prog 91 #[.pointer (some ⟨g,0,none⟩),.func (.func 104) #[] #[.pointer (some ⟨p,0,none⟩),.pointer (some ⟨q,0,none⟩)],.func (.func 105) #[] #[.pointer (some ⟨p,0,none⟩),.pointer (some ⟨q,0,none⟩)]] w fun e w'=>ErD (offC d) e w'∧DAt w' g (qaw d f)∧But g w w':=by
 have hmf:∀ (fn:Fn) (first cap:Array Value) (w:World),(Instr.makeFunc fn first cap).run Tryz.prog w=.ok (.func fn first cap) w:=fun _ _ _ _=>rfl
 obtain ⟨-,-,-,-,-,-,-,c7,c8,c9⟩:=h.cells
 have z8:=h.frozen 8
 have z9:=h.frozen 9
 have hlt:=h.lt
 have H:=hI h
 have HC:=hI hc
 have HOK:=hI hok
 have harm:=hok.arm
 by_cases hoff:d.arm=1
 ·have HO:Hid (offC d=20):=by show _=_;unfold offC DK.off;rw [if_pos (by simpa using hoff)]
  have HP:Hid (qaw d f={ (({ d with arm:=0,dead:=true }:DK).put f ⟨(d.get f).s,(d.get f).safe,true⟩) with ops:=d.ops + 1 }):=by
   show _=_
   obtain ⟨hf,-⟩:=hc
   have hb:d.off=true:=by unfold DK.off;simpa using hoff
   rcases hf with rfl | rfl <;> simp [qaw,hb,DK.goes,DK.put,DK.get,hoff]
  have hoff':((d.arm:Int) == 1)=true:=by simp;omega
  have HT:=hI (fun (W:World)=>qda 20 W (by omega))
  have HOK1:Hid ({ d with arm:=0,dead:=true }:DK).ok:=⟨hok.a,hok.b,hok.fit,hok.one,hok.room,Nat.zero_le _⟩
  clear h hc hok hoff
  go_enter_defers Tryz.func91,Tryz.ntmps91
  go_wp2
  go_region
  have D1:Hid (DAt ((((w.setCell ⟨g,8,none⟩ (.int .i64 0)).setCell ⟨g,9,none⟩ (.bool true)).alloc (.cells #[.pointer (some ⟨g,0,none⟩)] 25)).drew) g { d with arm:=0,dead:=true }):=by
   have D0:DAt ((w.setCell ⟨g,8,none⟩ (.int .i64 0)).setCell ⟨g,9,none⟩ (.bool true)) g { d with arm:=0,dead:=true }:=(H.out.arm 0).dead true
   exact (D0.below (bel1 _ _)).drew
  have B1:Hid (But g w ((((w.setCell ⟨g,8,none⟩ (.int .i64 0)).setCell ⟨g,9,none⟩ (.bool true)).alloc (.cells #[.pointer (some ⟨g,0,none⟩)] 25)).drew)):=((((But.refl g w).set 8 _).set 9 _).alloc _).drew
  have X1:Hid (((((w.setCell ⟨g,8,none⟩ (.int .i64 0)).setCell ⟨g,9,none⟩ (.bool true)).alloc (.cells #[.pointer (some ⟨g,0,none⟩)] 25)).drew).cell? ⟨w.heap.size,0,none⟩=some (.pointer (some ⟨g,0,none⟩))):=qjq (by simp [World.setCell])
  generalize (((w.setCell ⟨g,8,none⟩ (.int .i64 0)).setCell ⟨g,9,none⟩ (.bool true)).alloc (.cells #[.pointer (some ⟨g,0,none⟩)] 25)).drew=W1 at D1 B1 X1 ⊢
  go_wp2_with (go_at_call 105;refine (qxr _ g f p q W1 D1.out (HC.out.but B1.out)).mono ?_;rintro _ w2 ⟨rfl,hd2,hb2⟩;have D2:=hI hd2;have B2:=hI (B1.out.trans hb2);have X2:=hI ((hb2.cell (qam X1.out) (Nat.ne_of_gt hlt)).trans X1.out);clear hd2 hb2)
  go_wp2_with (go_at_call 32;refine (HT.out _).mono ?_;rintro e w3 ⟨v,rfl,hch,hb3⟩;have HCH:=hI hch;have B3:=hI (B2.out.trans (But.of hb3));have D3:=hI (D2.out.below hb3);have X3:=hI ((hb3.cell (qam X2.out)).trans X2.out);clear hch hb3)
  refine leaves_cons (f:=128) (args:=#[.pointer (some ⟨w.heap.size,0,none⟩)]) (by simp) (by simp [go_sem]) ?_
  refine (qdk _ g w.heap.size .returning w3 D3.out d.ops (qgt _ _ _) ho X3.out).mono ?_
  rintro e u' w'' ⟨rfl,rfl,rfl⟩
  have D4:DAt (w3.setCell ⟨g,7,none⟩ (.int .i64 ((d.ops:Int) + 1))) g (qaw d f):=by rw [HP.out];exact D3.out.ops (d.ops + 1)
  exact ⟨_,results_tmp rfl _ _ _,by rw [HO.out];exact qfh (by decide) (HCH.out.but ((But.refl g w3).set 7 _) D3.out.noFlt),D4,B3.out.set 7 _⟩
 ·have HO:Hid (offC d=0):=by show _=_;unfold offC DK.off;rw [if_neg (by simpa using hoff)]
  have HP:Hid (qaw d f={ (({ d with arm:=d.arm - 1 }:DK).put f zF) with ops:=d.ops + 1 }):=by
   show _=_
   obtain ⟨hf,-⟩:=hc
   have hb:d.off=false:=by unfold DK.off;simpa using hoff
   rcases hf with rfl | rfl <;> simp [qaw,hb,DK.goes,DK.put,hoff]
  have hoff':((d.arm:Int) == 1)=false:=by simp;omega
  have HOK1:Hid ({ d with arm:=d.arm - 1 }:DK).ok:=⟨hok.a,hok.b,hok.fit,hok.one,hok.room,by show d.arm - 1≤1000000;omega⟩
  obtain ⟨m,hm⟩:∃ m:Nat,d.arm - 1=m:=⟨_,rfl⟩
  have hmx:max ((d.arm:Int) - 1) 0=(m:Int):=by omega
  rw [hm] at HOK1 HP
  clear h hc hok hm
  go_enter_defers Tryz.func91,Tryz.ntmps91
  go_wp2
  go_region
  have D1:Hid (DAt (((w.setCell ⟨g,8,none⟩ (.int .i64 (m:Int))).alloc (.cells #[.pointer (some ⟨g,0,none⟩)] 25)).drew) g { d with arm:=m }):=((H.out.arm m).below (bel1 _ _)).drew
  have B1:Hid (But g w (((w.setCell ⟨g,8,none⟩ (.int .i64 (m:Int))).alloc (.cells #[.pointer (some ⟨g,0,none⟩)] 25)).drew)):=(((But.refl g w).set 8 _).alloc _).drew
  have X1:Hid ((((w.setCell ⟨g,8,none⟩ (.int .i64 (m:Int))).alloc (.cells #[.pointer (some ⟨g,0,none⟩)] 25)).drew).cell? ⟨w.heap.size,0,none⟩=some (.pointer (some ⟨g,0,none⟩))):=qjq (by simp [World.setCell])
  generalize ((w.setCell ⟨g,8,none⟩ (.int .i64 (m:Int))).alloc (.cells #[.pointer (some ⟨g,0,none⟩)] 25)).drew=W1 at D1 B1 X1 ⊢
  go_wp2_with (go_at_call 104;refine (qxq _ g f p q W1 D1.out (HC.out.but B1.out)).mono ?_;rintro _ w2 ⟨rfl,hd2,hb2⟩;have D2:=hI hd2;have B2:=hI (B1.out.trans hb2);have X2:=hI ((hb2.cell (qam X1.out) (Nat.ne_of_gt hlt)).trans X1.out);clear hd2 hb2)
  refine leaves_cons (f:=128) (args:=#[.pointer (some ⟨w.heap.size,0,none⟩)]) (by simp) (by simp [go_sem]) ?_
  refine (qdk _ g w.heap.size .returning w2 D2.out d.ops (qgt _ _ _) ho X2.out).mono ?_
  rintro e u' w'' ⟨rfl,rfl,rfl⟩
  have D4:DAt (w2.setCell ⟨g,7,none⟩ (.int .i64 ((d.ops:Int) + 1))) g (qaw d f):=by rw [HP.out];exact D2.out.ops (d.ops + 1)
  exact ⟨_,results_tmp rfl _ _ _,by rw [HO.out];exact qqt _,D4,B2.out.set 7 _⟩
end Go.Proofs.YtjkecckndfcbjaaGreatDoor
