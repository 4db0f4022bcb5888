/- Texts that the law leans on. -/
import Derived.Deep.RegionHeld3
import Derived.Deep.DrawnRows
import Derived.IntWalk
import Derived.Test.YtjkecckndfcbjaaGreatDoorPRowA
import Derived.Test.YtjkecckndfcbjaaGreatDoorPErrA
import Derived.Test.YtjkecckndfcbjaaGreatDoorPMsgF
namespace Go.Proofs.YtjkecckndfcbjaaGreatDoor
open Go.RowKit Nb
def RdrE (b:Nat) (s:ByteArray) (r:RS) (ev:Value) (w:World):Prop:=r.pos≤s.size∧w.heap[b]?=some (.cells #[.string s,.int .i64 (r.pos:Int),ev,.bool true] 225 (0,0)) ∧
 ((r.e=0∧ev=.nilIface)∨(r.e≠0∧∃ op ops,ops.length≤5∧Chain w (op :: ops) (r.e:Int) ev))
def Rdr (b:Nat) (s:ByteArray) (r:RS) (w:World):Prop:=∃ ev,RdrE b s r ev w
theorem RdrE.below {b:Nat} {s:ByteArray} {r:RS} {ev:Value} {w w':World} (h:RdrE b s r ev w) (hb:Below w.heap.size w w'):RdrE b s r ev w':=by
 obtain ⟨h1,h2,h3⟩:=h
 refine ⟨h1,(hb.block b (qaa h2)).trans h2,?_⟩
 rcases h3 with h3 | ⟨h3,op,ops,hl,h4⟩
 ·exact Or.inl h3
 ·exact Or.inr ⟨h3,op,ops,hl,h4.below hb⟩
theorem Rdr.below {b:Nat} {s:ByteArray} {r:RS} {w w':World} (h:Rdr b s r w) (hb:Below w.heap.size w w'):Rdr b s r w':=by
 obtain ⟨ev,h⟩:=h
 exact ⟨ev,h.below hb⟩
theorem RdrE.cells {b:Nat} {s:ByteArray} {r:RS} {ev:Value} {w:World} (h:RdrE b s r ev w):w.cell? ⟨b,0,none⟩=some (.string s)∧w.cell? ⟨b,1,none⟩=some (.int .i64 (r.pos:Int))∧w.cell? ⟨b,2,none⟩=some ev∧w.cell? ⟨b,3,none⟩=some (.bool true):=by
 obtain ⟨h1,h2,h3⟩:=h
 exact ⟨by rw [qac h2];rfl,by rw [qac h2];rfl,by rw [qac h2];rfl,by rw [qac h2];rfl⟩
theorem Rdr.lt {b:Nat} {s:ByteArray} {r:RS} {w:World} (h:Rdr b s r w):b < w.heap.size:=by obtain ⟨ev,_,h2,_⟩:=h;exact qaa h2
theorem Rdr.pos_le {b:Nat} {s:ByteArray} {r:RS} {w:World} (h:Rdr b s r w):r.pos≤s.size:=by obtain ⟨ev,h1,_⟩:=h;exact h1
theorem qbr {w w':World} (h:Below w.heap.size w w') (row:Option Nat):w.grownBy w' row:=⟨h.os,h.tape,h.output,h.size,fun i hi _=>h.block i hi⟩
theorem qav {a b c:World} {row:Option Nat} (h:a.grownBy b row) (k:b.grownBy c row):a.grownBy c row :=
 ⟨k.os.trans h.os,k.tape.trans h.tape,k.output.trans h.output,Nat.le_trans h.size k.size,fun i hi hne=>(k.block i (Nat.lt_of_lt_of_le hi h.size) hne).trans (h.block i hi hne)⟩
theorem qar {w:World} {ops:List ByteArray} {c:Int} {v:Value} (h:Chain w ops c v):∃ t u,v=.iface t u:=by
 cases ops with
 | nil=>exact ⟨_,_,h⟩
 | cons op ops=>obtain ⟨b,o,u,rfl,_⟩:=h;exact ⟨_,_,rfl⟩
theorem RdrE.notStr {b:Nat} {s:ByteArray} {r:RS} {ev:Value} {w:World} (h:RdrE b s r ev w):∀ x,ev≠.string x:=by
 intro x e
 subst e
 rcases h.2.2 with ⟨_,h⟩ | ⟨_,op,ops,_,h⟩
 ·cases h
 ·obtain ⟨t,u,h⟩:=qar h;cases h
theorem qqu {w:World} {b:Nat} {s:ByteArray} {n:Int} {ev z:Value} {m:Bool} {T:TypeId} (hb:w.heap[b]?=some (.cells #[.string s,.int .i64 n,ev,.bool m] T (0,0))) (hev:∀ x,ev≠.string x) {j:Nat} :
 ∀ {ops:List ByteArray} {c:Int} {v:Value},Chain w ops c v→Chain (w.setCell ⟨b,j,none⟩ z) ops c v
 | [],_,_,h=>h
 | _ :: _,_,_,⟨b',o,u,h1,h2,h3,h4,h5⟩=>by
   have hne:b'≠b:=by
    rintro rfl
    rw [qac hb] at h2 h3
    match o,h2,h3 with
    | 0,_,h3 =>
      simp at h3
      obtain ⟨t,u',hu⟩:=qar h4
      rw [←h3] at hu
      cases hu
    | 1,h2,_=>simp at h2
    | 2,h2,_=>simp at h2;exact hev _ h2
    | 3,h2,_=>simp at h2
    | o + 4,h2,_=>simp at h2
   have k:∀ x,(w.setCell ⟨b,j,none⟩ z).cell? ⟨b',x,none⟩=w.cell? ⟨b',x,none⟩:=fun x=>World.cell?_of_block (a:=⟨b',x,none⟩) (Below.heap_setCell w ⟨b,j,none⟩ z b' hne)
   obtain ⟨c5,f5,h5⟩:=h5
   exact ⟨b',o,u,h1,(k o).trans h2,(k (o + 1)).trans h3,qqu hb hev h4,c5,f5,(Below.heap_setCell w ⟨b,j,none⟩ z b' hne).trans h5⟩
def RPost (b:Nat) (s:ByteArray) (r:RS) (w w':World):Prop:=Rdr b s r w'∧w.grownBy w' (some b)
theorem qvh (s:ByteArray) (w:World) :
 Calls Tryz.prog 96 #[.string s] w fun e w'=>e=.returned (.pointer (some ⟨w.heap.size,0,none⟩))∧w'=w.alloc (.cells #[.string s,.int .i64 0,.nilIface,.bool true] 225):=by
 go_enter Tryz.func96,Tryz.ntmps96
 go_wp2
 go_ret
 exact ⟨rfl,rfl⟩
theorem Rdr.new (s:ByteArray) (w:World):Rdr w.heap.size s ⟨0,0⟩ (w.alloc (.cells #[.string s,.int .i64 0,.nilIface,.bool true] 225)) :=
 ⟨.nilIface,Nat.zero_le _,by show (w.heap.push _)[w.heap.size]?=_;simp,Or.inl ⟨rfl,rfl⟩⟩
theorem qhz (b:Nat) (s:ByteArray) (r:RS) (w:World) (h:Rdr b s r w) (hg:Glob w) :
 Calls Tryz.prog 132 #[.pointer (some ⟨b,0,none⟩)] w fun e w'=>e=.returned (.bool (r.e == 0))∧Below w.heap.size w w':=by
 obtain ⟨ev,h⟩:=h
 obtain ⟨c0,c1,c2,c3⟩:=h.cells
 have hlt:b < w.heap.size:=qaa h.2.1
 rcases h.2.2 with ⟨he,rfl⟩ | ⟨he,op,ops,_,hch⟩
 ·have e0:(r.e == 0)=true:=by simp [he]
  rw [e0]
  have HA:=hI (fun t W=>AsNil_any t W)
  clear h hg he e0
  go_enter Tryz.func132,Tryz.ntmps132
  go_wp2_with (go_at_call 43;refine (HA.out _ _).mono ?_;rintro e w' ⟨rfl,rfl⟩)
  go_ret
  exact ⟨rfl,bel1 w _⟩
 ·have e0:(r.e == 0)=false:=by simp [he]
  rw [e0]
  obtain ⟨b',o',u,rfl,_⟩:=hch
  have HA:=hI (AsF_any ⟨b',o',none⟩ ⟨w.heap.size,0,none⟩ (.pointer none) (w.alloc (.cells #[.pointer none] 132)) (hg.below (bel1 w _)) (by simp) (by simp))
  clear h hg he e0
  go_enter Tryz.func132,Tryz.ntmps132
  go_wp2_with (go_at_call 43;refine HA.out.mono ?_;rintro e w' ⟨rfl,hh⟩;have HG:=hI hh.grown;clear hh)
  go_ret
  exact ⟨rfl,qaq (bel1 w _) HG.out (Nat.le_refl _)⟩
theorem qgq (b q:Nat) (s piece:ByteArray) (r:RS) (w:World) (h:Rdr b s r w) (he:r.e=0) (hq:q≤s.size) :
 Calls Tryz.prog 134 #[.pointer (some ⟨b,0,none⟩),.string piece,.int .i64 q,.int .i64 0] w fun e w'=>e=.returned (.bool true)∧RPost b s ⟨q,0⟩ w w':=by
 obtain ⟨ev,h⟩:=h
 obtain ⟨c0,c1,c2,c3⟩:=h.cells
 have f1:w.frozen? ⟨b,1,none⟩=false:=Lib.frozen_of_heap h.2.1 1
 have HH:=hI h
 have HQ:=hI hq
 have HE:=hI he
 clear h he hq
 go_enter Tryz.func134,Tryz.ntmps134
 go_wp2
 go_ret
 refine ⟨rfl,⟨.nilIface,HQ.out,?_,Or.inl ⟨rfl,rfl⟩⟩,qag (World.grownBy.refl w _) rfl _⟩
 rcases HH.out.2.2 with ⟨_,rfl⟩ | ⟨hn,_⟩
 ·rw [qae HH.out.2.1];rfl
 ·exact absurd HE.out hn
def readW:ByteArray:=⟨#[114,101,97,100]⟩
theorem qcc (b c:Nat) (q:Int) (s piece:ByteArray) (r:RS) (w:World) (h:Rdr b s r w) (hc:c≠0) :
 Calls Tryz.prog 134 #[.pointer (some ⟨b,0,none⟩),.string piece,.int .i64 q,.int .i64 c] w fun e w'=>e=.returned (.bool false)∧RPost b s ⟨r.pos,c⟩ w w':=by
 obtain ⟨ev,h⟩:=h
 have hlt:b < w.heap.size:=qaa h.2.1
 have hc0:((c:Int) != 0)=true:=by simpa using hc
 have HN:=hI (qee piece (c:Int) w (by omega))
 have HH:=hI h
 have HC:=hI hc
 clear h hc
 go_enter Tryz.func134,Tryz.ntmps134
 go_wp2_with fail
 refine HN.out.mono ?_
 rintro e w1 ⟨v1,rfl,hch1,hb1⟩
 have HWr:=hI (qdo readW [piece] (c:Int) v1 w1 hch1)
 have HB1:=hI hb1
 clear hch1 hb1
 go_wp2_with fail
 refine HWr.out.mono ?_
 rintro e w2 ⟨v2,rfl,hch2,hb2⟩
 have hbb:=qad HB1.out hb2
 have hE2:=HH.out.below hbb
 obtain ⟨c0,c1,c2,c3⟩:=hE2.cells
 have f2:w2.frozen? ⟨b,2,none⟩=false:=Lib.frozen_of_heap hE2.2.1 2
 have HE2:=hI hE2
 have HCH:=hI hch2
 have HBB:=hI hbb
 obtain ⟨b2,o2,u2,rfl,_⟩:=hch2
 clear hE2 hbb hb2
 go_wp2
 go_ret
 refine ⟨rfl,⟨_,HE2.out.1,by rw [qae HE2.out.2.1];rfl,Or.inr ⟨HC.out,readW,[piece],by simp,?_⟩⟩,qag (qbr HBB.out _) rfl _⟩
 exact qqu HE2.out.2.1 HE2.out.notStr HCH.out
theorem RPost.of_below {b:Nat} {s:ByteArray} {r:RS} {w w':World} (h:Rdr b s r w) (hb:Below w.heap.size w w'):RPost b s r w w':=⟨h.below hb,qbr hb _⟩
theorem RPost.after {b:Nat} {s:ByteArray} {r:RS} {w w1 w2:World} (hb:Below w.heap.size w w1) (h:RPost b s r w1 w2):RPost b s r w w2:=⟨h.1,qav (qbr hb _) h.2⟩
set_option maxRecDepth 100000 in
set_option maxHeartbeats 4000000 in
theorem qoe (b:Nat) (s:ByteArray) (r:RS) (most:Nat) (w:World) (h:Rdr b s r w) (hg:Glob w) (hs:s.size≤1000000) :
 Calls Tryz.prog 97 #[.pointer (some ⟨b,0,none⟩),.int .i64 most] w fun e w'=>e=.returned (.int .i64 ((numR s.data.toList most r).2:Int))∧RPost b s (numR s.data.toList most r).1 w w':=by
 have HG:=hI (qhz b s r w h hg)
 have H:=hI h
 clear h hg
 by_cases he:r.e=0
 ·have e0:(r.e == 0)=true:=by simp [he]
  rw [e0] at HG
  have HE:=hI he
  have hp:=H.out.pos_le
  clear e0 he
  go_enter Tryz.func97,Tryz.ntmps97
  go_wp2_with fail
  refine HG.out.mono ?_
  rintro e w1 ⟨rfl,hb1⟩
  have h1:=H.out.below hb1
  have HH1:=hI h1
  have HB1:=hI hb1
  obtain ⟨ev,hE⟩:=h1
  obtain ⟨c0,c1,_,_⟩:=hE.cells
  have hlt:b < w1.heap.size:=qaa hE.2.1
  have q0:∀ p:ExtW w1,p.to.cell? ⟨b,0,none⟩=some (.string s):=fun p=>(p.h.cell (p:=⟨b,0,none⟩) hlt).trans c0
  have q1:∀ p:ExtW w1,p.to.cell? ⟨b,1,none⟩=some (.int .i64 (r.pos:Int)):=fun p=>(p.h.cell (p:=⟨b,1,none⟩) hlt).trans c1
  clear hE hb1 c0 c1
  cases hgl:getL (s.data.toList.drop r.pos) with
  | no c =>
    have HGE:=hI (fun W=>qvr s r.pos c W hp hs hgl)
    have hc:=qdg hgl
    have hc0:((c:Int) == 0)=false:=by simp;omega
    have hc1:c≠0:=by omega
    have HNR:=hI (numR_no (most:=most) HE.out hgl)
    have HC1:=hI hc1
    clear hgl hc hc1
    go_wp2_with fail
    refine qai (by kernel_rfl) (by kernel_rfl) ?_
    repeat (first | go_big_quiet_step ((go_at_call 133;exact Calls.ext_same (HGE.out _))) | quiet_step ((go_at_call 133;exact Calls.ext_same (HGE.out _))))
    refine wpQuiet_nil ?_
    intro w' hw'
    obtain ⟨⟨W,hbW⟩,hw''⟩:=hw'
    have hw3:w'=W:=hw''
    subst hw3
    have HH2:=hI (HH1.out.below hbW)
    have HB2:=hI (qad HB1.out hbW)
    obtain ⟨ev2,hE2⟩:=HH2.out
    obtain ⟨d0,_,_,_⟩:=hE2.cells
    clear hbW hw'' hE2
    have HD:=hI (fun (piece:ByteArray) (z:Int)=>qcc b c z s piece r w' HH2.out HC1.out)
    go_wp2_with (go_at_call 134;(with_reducible refine (HD.out _ _).mono ?_);rintro e w' ⟨rfl,hP⟩;have HP:=hI hP;clear hP)
    go_ret
    rw [HNR.out]
    exact ⟨rfl,RPost.after HB2.out HP.out⟩
  | ok n k =>
    have HGE:=hI (fun W=>qvq s r.pos n k W hp hs hgl)
    obtain ⟨-,-,hk,hn⟩:=qcn hgl
    have hk2:r.pos + k≤s.size:=by rw [List.length_drop] at hk;simp at hk;omega
    obtain ⟨q,hq⟩:∃ q,r.pos + k=q:=⟨_,rfl⟩
    rw [hq] at HGE hk2
    by_cases hbig:most < n
    ·have HNR:=hI (qtc HE.out hgl hbig)
     clear hgl hk hq
     have hb3:(most:Int) < (n:Int):=by omega
     clear hn
     go_wp2_with fail
     refine qai (by kernel_rfl) (by kernel_rfl) ?_
     repeat (first | go_big_quiet_step ((go_at_call 133;exact Calls.ext_same (HGE.out _))) | quiet_step ((go_at_call 133;exact Calls.ext_same (HGE.out _))))
     refine wpQuiet_nil ?_
     intro w' hw'
     obtain ⟨⟨W,hbW⟩,hw''⟩:=hw'
     have hw3:w'=W:=hw''
     subst hw3
     have HH2:=hI (HH1.out.below hbW)
     have HB2:=hI (qad HB1.out hbW)
     obtain ⟨ev2,hE2⟩:=HH2.out
     obtain ⟨d0,_,_,_⟩:=hE2.cells
     clear hbW hw'' hE2
     have HD:Hid (∀ (piece:ByteArray) (z:Int),Calls Tryz.prog 134 #[.pointer (some ⟨b,0,none⟩),.string piece,.int .i64 z,.int .i64 3] w' fun e w''=>e=.returned (.bool false)∧RPost b s ⟨r.pos,3⟩ w' w''):=fun piece z=>qcc b 3 z s piece r w' HH2.out (by omega)
     go_wp2_with (go_at_call 134;(with_reducible refine (HD.out _ _).mono ?_);rintro e w' ⟨rfl,hP⟩;have HP:=hI hP;clear hP)
     go_ret
     rw [HNR.out]
     exact ⟨rfl,RPost.after HB2.out HP.out⟩
    ·have HNR:=hI (qtd HE.out hgl hbig)
     rw [hq] at HNR
     clear hgl hk hq
     have hb3:decide ((most:Int) < (n:Int))=false:=by simp;omega
     have hb4:decide (most < n)=false:=by simp;omega
     clear hn hbig
     go_wp2_with fail
     refine qai (by kernel_rfl) (by kernel_rfl) ?_
     repeat (first | go_big_quiet_step ((go_at_call 133;exact Calls.ext_same (HGE.out _))) | quiet_step ((go_at_call 133;exact Calls.ext_same (HGE.out _))))
     refine wpQuiet_nil ?_
     intro w' hw'
     obtain ⟨⟨W,hbW⟩,hw''⟩:=hw'
     have hw3:w'=W:=hw''
     subst hw3
     have HH2:=hI (HH1.out.below hbW)
     have HB2:=hI (qad HB1.out hbW)
     obtain ⟨ev2,hE2⟩:=HH2.out
     obtain ⟨d0,_,_,_⟩:=hE2.cells
     clear hbW hw'' hE2
     have HD:=hI (fun (piece:ByteArray)=>qgq b q s piece r w' HH2.out HE.out hk2)
     go_wp2_with (go_at_call 134;(with_reducible refine (HD.out _).mono ?_);rintro e w' ⟨rfl,hP⟩;have HP:=hI hP;clear hP)
     go_ret
     rw [HNR.out]
     exact ⟨rfl,RPost.after HB2.out HP.out⟩
 ·have e0:(r.e == 0)=false:=by simp [he]
  rw [e0] at HG
  have HNR:Hid (numR s.data.toList most r=(r,0)):=qtg he
  clear e0 he
  go_enter Tryz.func97,Tryz.ntmps97
  go_wp2_with (go_at_call 132;refine HG.out.mono ?_;rintro e w1 ⟨rfl,hb1⟩;have HB1:=hI hb1;clear hb1)
  go_ret
  rw [HNR.out]
  exact ⟨rfl,RPost.of_below H.out HB1.out⟩
set_option maxRecDepth 100000 in
set_option maxHeartbeats 4000000 in
theorem qld (b:Nat) (s:ByteArray) (r:RS) (most:Nat) (w:World) (h:Rdr b s r w) (hg:Glob w) (hs:s.size≤1000000) :
 Calls Tryz.prog 98 #[.pointer (some ⟨b,0,none⟩),.int .i64 most] w fun e w'=>e=.returned (.string ⟨(qcb s.data.toList most r).2.toArray⟩)∧RPost b s (qcb s.data.toList most r).1 w w':=by
 have HG:=hI (qhz b s r w h hg)
 have H:=hI h
 clear h hg
 by_cases he:r.e=0
 ·have e0:(r.e == 0)=true:=by simp [he]
  rw [e0] at HG
  have HE:=hI he
  have hp:=H.out.pos_le
  clear e0 he
  go_enter Tryz.func98,Tryz.ntmps98
  go_wp2_with fail
  refine HG.out.mono ?_
  rintro e w1 ⟨rfl,hb1⟩
  have h1:=H.out.below hb1
  have HH1:=hI h1
  have HB1:=hI hb1
  obtain ⟨ev,hE⟩:=h1
  obtain ⟨c0,c1,_,_⟩:=hE.cells
  have hlt:b < w1.heap.size:=qaa hE.2.1
  have q0:∀ p:ExtW w1,p.to.cell? ⟨b,0,none⟩=some (.string s):=fun p=>(p.h.cell (p:=⟨b,0,none⟩) hlt).trans c0
  have q1:∀ p:ExtW w1,p.to.cell? ⟨b,1,none⟩=some (.int .i64 (r.pos:Int)):=fun p=>(p.h.cell (p:=⟨b,1,none⟩) hlt).trans c1
  clear hE hb1 c0 c1
  have hsl:s.data.toList.length=s.size:=by simp
  cases hgl:getL (s.data.toList.drop r.pos) with
  | no c =>
    have HGE:=hI (fun W=>qvr s r.pos c W hp hs hgl)
    have hc:=qdg hgl
    have hc0:((c:Int) != 0)=true:=by simp;omega
    have hc1:c≠0:=by omega
    have HNR:=hI (qte (most:=most) HE.out hgl)
    have HC1:=hI hc1
    clear hgl hc hc1 hsl
    go_wp2_with fail
    refine qai (by kernel_rfl) (by kernel_rfl) ?_
    repeat (first | go_big_quiet_step ((go_at_call 133;exact Calls.ext_same (HGE.out _))) | quiet_step ((go_at_call 133;exact Calls.ext_same (HGE.out _))))
    refine wpQuiet_nil ?_
    intro w' hw'
    obtain ⟨⟨W,hbW⟩,hw''⟩:=hw'
    have hw3:w'=W:=hw''
    subst hw3
    have HH2:=hI (HH1.out.below hbW)
    have HB2:=hI (qad HB1.out hbW)
    obtain ⟨ev2,hE2⟩:=HH2.out
    obtain ⟨d0,_,_,_⟩:=hE2.cells
    clear hbW hw'' hE2
    have HD:=hI (fun (piece:ByteArray) (z:Int)=>qcc b c z s piece r w' HH2.out HC1.out)
    go_wp2_with (go_at_call 134;(with_reducible refine (HD.out _ _).mono ?_);rintro e w' ⟨rfl,hP⟩;have HP:=hI hP;clear hP)
    go_ret
    rw [HNR.out]
    exact ⟨rfl,RPost.after HB2.out HP.out⟩
  | ok n k =>
    have HGE:=hI (fun W=>qvq s r.pos n k W hp hs hgl)
    obtain ⟨-,-,hk,hn⟩:=qcn hgl
    have hk2:r.pos + k≤s.size:=by rw [List.length_drop] at hk;simp at hk;omega
    obtain ⟨q,hq⟩:∃ q,r.pos + k=q:=⟨_,rfl⟩
    rw [hq] at HGE hk2
    by_cases hbig:most < n
    ·have HNR:=hI (qoy HE.out hgl hbig)
     clear hgl hk hq hsl
     have hb3:(most:Int) < (n:Int):=by omega
     clear hn
     go_wp2_with fail
     refine qai (by kernel_rfl) (by kernel_rfl) ?_
     repeat (first | go_big_quiet_step ((go_at_call 133;exact Calls.ext_same (HGE.out _))) | quiet_step ((go_at_call 133;exact Calls.ext_same (HGE.out _))))
     refine wpQuiet_nil ?_
     intro w' hw'
     obtain ⟨⟨W,hbW⟩,hw''⟩:=hw'
     have hw3:w'=W:=hw''
     subst hw3
     have HH2:=hI (HH1.out.below hbW)
     have HB2:=hI (qad HB1.out hbW)
     obtain ⟨ev2,hE2⟩:=HH2.out
     obtain ⟨d0,_,_,_⟩:=hE2.cells
     clear hbW hw'' hE2
     have HD:Hid (∀ (piece:ByteArray) (z:Int),Calls Tryz.prog 134 #[.pointer (some ⟨b,0,none⟩),.string piece,.int .i64 z,.int .i64 3] w' fun e w''=>e=.returned (.bool false)∧RPost b s ⟨r.pos,3⟩ w' w''):=fun piece z=>qcc b 3 z s piece r w' HH2.out (by omega)
     go_wp2_with (go_at_call 134;(with_reducible refine (HD.out _ _).mono ?_);rintro e w' ⟨rfl,hP⟩;have HP:=hI hP;clear hP)
     go_ret
     rw [HNR.out]
     exact ⟨rfl,RPost.after HB2.out HP.out⟩
    ·have hb3:decide ((most:Int) < (n:Int))=false:=by simp;omega
     have hb4:decide (most < n)=false:=by simp;omega
     by_cases hsh:s.size - q < n
     ·have HNR:=hI (qkc HE.out hgl hbig (by rw [hsl,hq];exact hsh))
      have hb5:decide ((s.size:Int) - (q:Int) < (n:Int))=true:=by simp;omega
      clear hgl hk hq hsl hbig hsh
      go_wp2_with fail
      refine qai (by kernel_rfl) (by kernel_rfl) ?_
      repeat (first | go_big_quiet_step ((go_at_call 133;exact Calls.ext_same (HGE.out _))) | quiet_step ((go_at_call 133;exact Calls.ext_same (HGE.out _))))
      refine wpQuiet_nil ?_
      intro w' hw'
      obtain ⟨⟨W,hbW⟩,hw''⟩:=hw'
      have hw3:w'=W:=hw''
      subst hw3
      have HH2:=hI (HH1.out.below hbW)
      have HB2:=hI (qad HB1.out hbW)
      obtain ⟨ev2,hE2⟩:=HH2.out
      obtain ⟨d0,_,_,_⟩:=hE2.cells
      clear hbW hw'' hE2
      have HD:Hid (∀ (piece:ByteArray) (z:Int),Calls Tryz.prog 134 #[.pointer (some ⟨b,0,none⟩),.string piece,.int .i64 z,.int .i64 4] w' fun e w''=>e=.returned (.bool false)∧RPost b s ⟨r.pos,4⟩ w' w''):=fun piece z=>qcc b 4 z s piece r w' HH2.out (by omega)
      go_wp2_with (go_at_call 134;(with_reducible refine (HD.out _ _).mono ?_);rintro e w' ⟨rfl,hP⟩;have HP:=hI hP;clear hP)
      go_ret
      rw [HNR.out]
      exact ⟨rfl,RPost.after HB2.out HP.out⟩
     ·have HNR:=hI (qoz HE.out hgl hbig (by rw [hsl,hq];exact hsh))
      rw [hq] at HNR
      have hb5:decide ((s.size:Int) - (q:Int) < (n:Int))=false:=by simp;omega
      have hqn:q + n≤s.size:=by omega
      have hz1:(q:Int) + (n:Int)≤(s.size:Int):=by omega
      clear hgl hk hq hsl hbig hsh
      go_wp2_with fail
      refine qai (by kernel_rfl) (by kernel_rfl) ?_
      repeat (first | go_big_quiet_step ((go_at_call 133;exact Calls.ext_same (HGE.out _))) | quiet_step ((go_at_call 133;exact Calls.ext_same (HGE.out _))))
      refine wpQuiet_nil ?_
      intro w' hw'
      obtain ⟨⟨W,hbW⟩,hw''⟩:=hw'
      have hw3:w'=W:=hw''
      subst hw3
      have HH2:=hI (HH1.out.below hbW)
      have HB2:=hI (qad HB1.out hbW)
      obtain ⟨ev2,hE2⟩:=HH2.out
      obtain ⟨d0,_,_,_⟩:=hE2.cells
      clear hbW hw'' hE2
      have HD:=hI (fun (piece:ByteArray)=>qgq b (q + n) s piece r w' HH2.out HE.out hqn)
      have HXS:Hid (s.extract q (q + n)=⟨((s.data.toList.drop q).take n).toArray⟩):=by
       have e1:s.extract q (q + n)=⟨((s.data.toList.drop q).take n).toArray⟩:=by
        apply ByteArray.ext
        apply Array.ext'
        rw [qev]
        simp
       exact e1
      go_wp2_with (go_at_call 134;refine (HD.out _).mono ?_;rintro e w'' ⟨rfl,hP⟩;have HP:=hI hP;obtain ⟨ev3,hE3⟩:=hP.1;obtain ⟨d3,_,_,_⟩:=hE3.cells;clear hP hE3)
      go_ret
      rw [HNR.out]
      exact ⟨congrArg (fun x=>Ending.returned (.string x)) HXS.out,RPost.after HB2.out HP.out⟩
 ·have e0:(r.e == 0)=false:=by simp [he]
  rw [e0] at HG
  have HNR:Hid (qcb s.data.toList most r=(r,[])):=qpa he
  clear e0 he
  go_enter Tryz.func98,Tryz.ntmps98
  go_wp2_with (go_at_call 132;refine HG.out.mono ?_;rintro e w1 ⟨rfl,hb1⟩;have HB1:=hI hb1;clear hb1)
  go_ret
  rw [HNR.out]
  exact ⟨rfl,RPost.of_below H.out HB1.out⟩
end Go.Proofs.YtjkecckndfcbjaaGreatDoor
namespace Go.Proofs.YtjkecckndfcbjaaGreatDoor
open Go.RowKit Nb
attribute [local go_sem ↓] Go.wp_at_zero Go.wp_at_succ
def RRowP (b:Nat) (s:ByteArray) (r:RS×List Nat) (w:World) (e:Ending) (w':World):Prop :=
 ∃ A cp,e=.returned (.slice A r.2.length cp)∧RdI w'.heap.size w' A (ints r.2)∧((A=none→cp=0)∧r.2.length≤cp)∧(∀ a,A=some a→w.heap.size≤a.block)∧RPost b s r.1 w w'
theorem RRowP.nil {b:Nat} {s:ByteArray} {r:RS} {w w':World} (h:RPost b s r w w'):RRowP b s (r,[]) w (.returned (.slice none 0 0)) w' :=
 ⟨none,0,rfl,RdI.none_,⟨fun _=>rfl,Nat.zero_le _⟩,(fun _ h=>by cases h),h⟩
set_option maxRecDepth 100000 in
set_option maxHeartbeats 4000000 in
theorem qvi (b:Nat) (s:ByteArray) (r:RS) (most:Nat) (w:World) (h:Rdr b s r w) (hg:Glob w) (hs:s.size≤1000000) (hm:most≤1000) :
 Calls Tryz.prog 163 #[.pointer (some ⟨b,0,none⟩),.int .i64 most] w fun e w'=>RRowP b s (rowR s.data.toList most r) w e w':=by
 have HG:=hI (qhz b s r w h hg)
 have H:=hI h
 clear h hg
 by_cases he:r.e=0
 ·have e0:(r.e == 0)=true:=by simp [he]
  rw [e0] at HG
  have HE:=hI he
  have hp:=H.out.pos_le
  clear e0 he
  go_enter Tryz.func163,Tryz.ntmps163
  go_wp2_with fail
  refine HG.out.mono ?_
  rintro e w1 ⟨rfl,hb1⟩
  have h1:=H.out.below hb1
  have HH1:=hI h1
  have HB1:=hI hb1
  obtain ⟨ev,hE⟩:=h1
  obtain ⟨c0,c1,_,_⟩:=hE.cells
  have hlt:b < w1.heap.size:=qaa hE.2.1
  have HU:=hI (fun W=>Unrow_any s r.pos most W hp hs hm)
  clear hb1
  cases hun:qdk (s.data.toList.drop r.pos) most with
  | no c =>
    have hc:=qmu hun
    have HNR:=hI (rowR_no HE.out hun)
    rw [hun] at HU
    have hc0:((c:Int) != 0)=true:=by simp;omega
    have hc1:c≠0:=by omega
    have HC1:=hI hc1
    have q0:∀ p:ExtW w1,p.to.cell? ⟨b,0,none⟩=some (.string s):=fun p=>(p.h.cell (p:=⟨b,0,none⟩) hlt).trans c0
    have q1:∀ p:ExtW w1,p.to.cell? ⟨b,1,none⟩=some (.int .i64 (r.pos:Int)):=fun p=>(p.h.cell (p:=⟨b,1,none⟩) hlt).trans c1
    have HGE:=hI (fun W=>(HU.out W).mono (fun e w' (h:UnR r.pos W (.no c) e w')=>(⟨h.2,h.1⟩:e=.returned (.tuple #[.slice none 0 0,.int .i64 0,.int .i64 (c:Int)])∧Below W.heap.size W w')))
    clear hun hc hc1 hE c0 c1
    go_wp2_with fail
    refine qai (by kernel_rfl) (by kernel_rfl) ?_
    repeat (first | go_big_quiet_step ((go_at_call 175;exact Calls.ext_of (HGE.out _))) | quiet_step ((go_at_call 175;exact Calls.ext_of (HGE.out _))))
    refine wpQuiet_nil ?_
    intro w' hw'
    obtain ⟨⟨W,hbW⟩,hw''⟩:=hw'
    have hw3:w'=W:=hw''
    subst hw3
    have HH2:=hI (HH1.out.below hbW)
    have HB2:=hI (qad HB1.out hbW)
    clear hbW hw''
    have HD:=hI (fun (piece:ByteArray) (z:Int)=>qcc b c z s piece r w' HH2.out HC1.out)
    go_wp2_with (go_at_call 134;(with_reducible refine (HD.out _ _).mono ?_);rintro e w' ⟨rfl,hP⟩;have HP:=hI hP;clear hP)
    go_ret
    rw [HNR.out]
    exact RRowP.nil (RPost.after HB2.out HP.out)
  | ok l k =>
    have hk:=(qmx hun).1
    have hk2:r.pos + k≤s.size:=by rw [List.length_drop] at hk;simp at hk;omega
    have HNR:=hI (qtf HE.out hun)
    rw [hun] at HU
    obtain ⟨q,hq⟩:∃ q,r.pos + k=q:=⟨_,rfl⟩
    have HGE:Hid (∀ W,Calls Tryz.prog 175 #[.string s,.int .i64 r.pos,.int .i64 most] W fun e w'=>Below W.heap.size W w'∧∃ A cp,e=.returned (.tuple #[.slice A l.length cp,.int .i64 (q:Int),.int .i64 0])∧RdI w'.heap.size w' A (ints l)∧((A=none→cp=0)∧l.length≤cp)∧(∀ a,A=some a→W.heap.size≤a.block)):=by
     intro W
     refine (HU.out W).mono ?_
     rintro e w' ⟨h1,A,cp,h2,h3,h4,h5⟩
     rw [hq] at h2
     exact ⟨h1,A,cp,h2,h3,h4,h5⟩
    rw [hq] at HNR hk2
    have z0:=c0
    have z1:=c1
    clear hun hk hq hE HU
    go_wp2_with fail
    go_region_held3 (fun w'=>w'.cell? ⟨b,0,none⟩=some (.string s)∧w'.cell? ⟨b,1,none⟩=some (.int .i64 (r.pos:Int))) (first | exact ⟨z0,z1⟩)
     ((go_at_call 175;refine (HGE.out _).mono ?_;rintro e w2 ⟨hb2,A,cp,rfl,hrd,hnil,hlo⟩;have z0:w2.cell? ⟨b,0,none⟩=some (.string s):=(hb2.cell (p:=⟨b,0,none⟩) hlt).trans c0;have z1:w2.cell? ⟨b,1,none⟩=some (.int .i64 (r.pos:Int)):=(hb2.cell (p:=⟨b,1,none⟩) hlt).trans c1))
    have hb3:Below w1.heap.size w1 w2:=((Below.refl _ _).drew).trans hb2
    have HH2:=hI (HH1.out.below hb3)
    have HB2:=hI (qad HB1.out hb3)
    have HRD:=hI hrd
    have HNI:=hI hnil
    have HLO:Hid (∀ a,A=some a→w1.heap.size≤a.block):=hlo
    have HSZ1:=hI HB1.out.size
    have HD:=hI (fun (piece:ByteArray)=>qgq b q s piece r w2 HH2.out HE.out hk2)
    clear hb3 hb2 hrd hnil hlo z0 z1 c0 c1
    go_wp2_with (go_at_call 134;(with_reducible refine (HD.out _).mono ?_);rintro e w3 ⟨rfl,hP⟩;have HP:=hI hP;clear hP)
    go_ret
    rw [HNR.out]
    exact ⟨A,cp,rfl,HRD.out.grown HP.out.2 (fun a ha=>by have:=HLO.out a ha;omega),HNI.out,(fun a ha=>Nat.le_trans HSZ1.out (HLO.out a ha)),RPost.after HB2.out HP.out⟩
 ·have e0:(r.e == 0)=false:=by simp [he]
  rw [e0] at HG
  have HNR:Hid (rowR s.data.toList most r=(r,[])):=qth he
  clear e0 he
  go_enter Tryz.func163,Tryz.ntmps163
  go_wp2_with (go_at_call 132;refine HG.out.mono ?_;rintro e w1 ⟨rfl,hb1⟩;have HB1:=hI hb1;clear hb1)
  go_ret
  rw [HNR.out]
  exact RRowP.nil (RPost.of_below H.out HB1.out)
set_option maxRecDepth 100000 in
set_option maxHeartbeats 4000000 in
theorem qvj (b:Nat) (s:ByteArray) (r:RS) (w:World) (h:Rdr b s r w) (hg:Glob w) :
 Calls Tryz.prog 100 #[.pointer (some ⟨b,0,none⟩)] w fun e w'=>e=.returned (.tuple #[])∧RPost b s (endR s.data.toList r) w w':=by
 have HG:=hI (fun p:ExtW w=>qhz b s r p.to (h.below p.h) (hg.below p.h))
 have H:=hI h
 obtain ⟨ev,hE⟩:=h
 obtain ⟨c0,c1,_,_⟩:=hE.cells
 have hlt:b < w.heap.size:=qaa hE.2.1
 have q0:∀ p:ExtW w,p.to.cell? ⟨b,0,none⟩=some (.string s):=fun p=>(p.h.cell (p:=⟨b,0,none⟩) hlt).trans c0
 have q1:∀ p:ExtW w,p.to.cell? ⟨b,1,none⟩=some (.int .i64 (r.pos:Int)):=fun p=>(p.h.cell (p:=⟨b,1,none⟩) hlt).trans c1
 have hsl:s.data.toList.length=s.size:=by simp
 clear hg hE c0 c1
 by_cases he:r.e=0
 ·have e0:(r.e == 0)=true:=by simp [he]
  rw [e0] at HG
  by_cases hps:r.pos < s.size
  ·have hz:decide ((r.pos:Int) < (s.size:Int))=true:=by simp;omega
   have HNR:Hid (endR s.data.toList r=⟨r.pos,6⟩):=by show _=_;unfold endR;rw [hsl,if_pos ⟨he,hps⟩]
   clear e0 he hsl
   go_enter Tryz.func100,Tryz.ntmps100
   go_wp2_with fail
   refine qai (by kernel_rfl) (by kernel_rfl) ?_
   repeat (first | go_big_quiet_step ((go_at_call 132;exact Calls.ext_of (HG.out _))) | quiet_step ((go_at_call 132;exact Calls.ext_of (HG.out _))))
   refine wpQuiet_nil ?_
   intro w' hw'
   obtain ⟨⟨W,hbW⟩,hw''⟩:=hw'
   have hw3:w'=W:=hw''
   subst hw3
   have HH2:=hI (H.out.below hbW)
   have HB2:=hI hbW
   clear hbW hw''
   have HD:Hid (∀ (piece:ByteArray) (z:Int),Calls Tryz.prog 134 #[.pointer (some ⟨b,0,none⟩),.string piece,.int .i64 z,.int .i64 6] w' fun e w''=>e=.returned (.bool false)∧RPost b s ⟨r.pos,6⟩ w' w''):=fun piece z=>qcc b 6 z s piece r w' HH2.out (by omega)
   go_wp2_with (go_at_call 134;(with_reducible refine (HD.out _ _).mono ?_);rintro e w' ⟨rfl,hP⟩;have HP:=hI hP;clear hP)
   go_end0
   rw [HNR.out]
   exact ⟨rfl,RPost.after HB2.out HP.out⟩
  ·have hz:decide ((r.pos:Int) < (s.size:Int))=false:=by simp;omega
   have hz2:decide (r.pos < s.size)=false:=by simp;omega
   have HNR:Hid (endR s.data.toList r=r):=by show _=_;unfold endR;rw [hsl,if_neg (fun h=>hps h.2)]
   clear e0 he hsl hps
   go_enter Tryz.func100,Tryz.ntmps100
   go_wp2_with fail
   refine qai (by kernel_rfl) (by kernel_rfl) ?_
   repeat (first | go_big_quiet_step ((go_at_call 132;exact Calls.ext_of (HG.out _))) | quiet_step ((go_at_call 132;exact Calls.ext_of (HG.out _))))
   refine wpQuiet_nil ?_
   intro w' hw'
   obtain ⟨⟨W,hbW⟩,hw''⟩:=hw'
   have hw3:w'=W:=hw''
   subst hw3
   have HB2:=hI hbW
   clear hbW hw''
   go_wp2
   go_end0
   rw [HNR.out]
   exact ⟨rfl,RPost.of_below H.out HB2.out⟩
 ·have e0:(r.e == 0)=false:=by simp [he]
  rw [e0] at HG
  have HNR:Hid (endR s.data.toList r=r):=by show _=_;unfold endR;rw [if_neg (fun h=>he h.1)]
  clear e0 he hsl
  go_enter Tryz.func100,Tryz.ntmps100
  go_wp2_with fail
  refine qai (by kernel_rfl) (by kernel_rfl) ?_
  repeat (first | go_big_quiet_step ((go_at_call 132;exact Calls.ext_of (HG.out _))) | quiet_step ((go_at_call 132;exact Calls.ext_of (HG.out _))))
  refine wpQuiet_nil ?_
  intro w' hw'
  obtain ⟨⟨W,hbW⟩,hw''⟩:=hw'
  have hw3:w'=W:=hw''
  subst hw3
  have HB2:=hI hbW
  clear hbW hw''
  go_wp2
  go_end0
  rw [HNR.out]
  exact ⟨rfl,RPost.of_below H.out HB2.out⟩
def FaultV (w:World) (c:Nat) (ev:Value):Prop:=(c=0∧ev=.nilIface)∨(c≠0∧∃ op ops,ops.length≤5∧Chain w (op :: ops) (c:Int) ev)
theorem qqv (b:Nat) (s:ByteArray) (r:RS) (w:World) (h:Rdr b s r w) :
 Calls Tryz.prog 101 #[.pointer (some ⟨b,0,none⟩)] w fun e w'=>∃ ev,e=.returned ev∧FaultV w r.e ev∧w=w':=by
 obtain ⟨ev,hE⟩:=h
 obtain ⟨c0,c1,c2,c3⟩:=hE.cells
 have HF:Hid (FaultV w r.e ev):=hE.2.2
 clear hE
 go_enter Tryz.func101,Tryz.ntmps101
 go_wp2
 go_ret
 exact ⟨_,rfl,HF.out,rfl⟩
end Go.Proofs.YtjkecckndfcbjaaGreatDoor
namespace Go.Proofs.YtjkecckndfcbjaaGreatDoor
open Go.RowKit Nb
attribute [local go_sem ↓] Go.wp_at_zero Go.wp_at_succ
set_option maxRecDepth 100000 in
theorem WFlag_any (B b:Nat) (l:List UInt8) (f:Bool) (w:World) (h:Wrt B b l w) (hl:l.length≤900000000) (hB:B≤w.heap.size) :
 Calls Tryz.prog 123 #[.pointer (some ⟨b,0,none⟩),.bool f] w fun e w'=>e=.returned (.tuple #[])∧Wrt B b (l ++ qer f) w'∧Below B w w'∧KeepT b w w':=by
 cases f
 ·have HW:Hid (∀ piece,Calls Tryz.prog 142 #[.pointer (some ⟨b,0,none⟩),.string piece,.string ⟨#[0]⟩,.int .i64 0] w fun e w'=>e=.returned (.tuple #[])∧Wrt B b (l ++ qer false) w'∧Below B w w'∧KeepT b w w'):=fun piece=>qok B b l piece ⟨#[0]⟩ w h (by show l.length + 1≤_;omega) hB
  clear h
  go_enter Tryz.func123,Tryz.ntmps123
  go_wp2_with (go_at_call 142;refine (HW.out _).mono ?_;rintro e w' ⟨rfl,h2,hb2,hk2⟩;have H2:=hI h2;have HB2:=hI hb2;have HK2:=hI hk2;clear h2 hb2 hk2)
  go_end0
  exact ⟨rfl,H2.out,HB2.out,HK2.out⟩
 ·have HW:Hid (∀ piece,Calls Tryz.prog 142 #[.pointer (some ⟨b,0,none⟩),.string piece,.string ⟨#[1]⟩,.int .i64 0] w fun e w'=>e=.returned (.tuple #[])∧Wrt B b (l ++ qer true) w'∧Below B w w'∧KeepT b w w'):=fun piece=>qok B b l piece ⟨#[1]⟩ w h (by show l.length + 1≤_;omega) hB
  clear h
  go_enter Tryz.func123,Tryz.ntmps123
  go_wp2_with (go_at_call 142;refine (HW.out _).mono ?_;rintro e w' ⟨rfl,h2,hb2,hk2⟩;have H2:=hI h2;have HB2:=hI hb2;have HK2:=hI hk2;clear h2 hb2 hk2)
  go_end0
  exact ⟨rfl,H2.out,HB2.out,HK2.out⟩
theorem qqw {s:List UInt8} {r:RS} (hr:r.e=0) (h:s.length≤r.pos):qdu s r=(⟨r.pos,4⟩,false):=by
 unfold qdu;rw [if_neg (by simp [hr]),List.drop_eq_nil_of_le h]
theorem qvk (s:ByteArray) (p:Nat) (h:p < s.size):s.data.toList.drop p=s[p] :: s.data.toList.drop (p + 1):=by
 rw [List.drop_eq_getElem_cons (by simpa using h)];rfl
theorem qmo {s:ByteArray} {r:RS} (hr:r.e=0) (h:r.pos < s.size) (hb:1 < s[r.pos].toNat):qdu s.data.toList r=(⟨r.pos,5⟩,false):=by
 unfold qdu;rw [if_neg (by simp [hr]),qvk s _ h];simp only;rw [if_pos hb]
theorem qqx {s:ByteArray} {r:RS} (hr:r.e=0) (h:r.pos < s.size) (hb:¬ 1 < s[r.pos].toNat):qdu s.data.toList r=(⟨r.pos + 1,0⟩,s[r.pos].toNat == 1):=by
 unfold qdu;rw [if_neg (by simp [hr]),qvk s _ h];simp only;rw [if_neg hb]
set_option maxRecDepth 100000 in
set_option maxHeartbeats 4000000 in
theorem RFlag_any (b:Nat) (s:ByteArray) (r:RS) (w:World) (h:Rdr b s r w) (hg:Glob w) (hs:s.size≤1000000) :
 Calls Tryz.prog 99 #[.pointer (some ⟨b,0,none⟩)] w fun e w'=>e=.returned (.bool (qdu s.data.toList r).2)∧RPost b s (qdu s.data.toList r).1 w w':=by
 have HG:=hI (qhz b s r w h hg)
 have H:=hI h
 have hsl:s.data.toList.length=s.size:=by simp
 clear h hg
 by_cases he:r.e=0
 ·have e0:(r.e == 0)=true:=by simp [he]
  rw [e0] at HG
  have HE:=hI he
  have hp:=H.out.pos_le
  clear e0 he
  go_enter Tryz.func99,Tryz.ntmps99
  go_wp2_with fail
  refine HG.out.mono ?_
  rintro e w1 ⟨rfl,hb1⟩
  have h1:=H.out.below hb1
  have HH1:=hI h1
  have HB1:=hI hb1
  obtain ⟨ev,hE⟩:=h1
  obtain ⟨c0,c1,_,_⟩:=hE.cells
  have hlt:b < w1.heap.size:=qaa hE.2.1
  clear hE hb1
  by_cases hps:r.pos=s.size
  ·have e1:((r.pos:Int) == (s.size:Int))=true:=by simp [hps]
   have e2:(r.pos == s.size)=true:=by simp [hps]
   have HNR:Hid (qdu s.data.toList r=(⟨r.pos,4⟩,false)):=qqw HE.out (by omega)
   have HPS:=hI hps
   clear hps hsl
   go_wp2_with fail
   go_quiet (fail)
   go_wp2_with fail
   generalize hw2:World.drewN w1 _=w2
   have hb2:Below w1.heap.size w1 w2:=by rw [←hw2];exact qao (Below.refl _ _) _
   have HH2:=hI (HH1.out.below hb2)
   have HB2:=hI (qad HB1.out hb2)
   have HD:Hid (∀ (piece:ByteArray) (z:Int),Calls Tryz.prog 134 #[.pointer (some ⟨b,0,none⟩),.string piece,.int .i64 z,.int .i64 4] w2 fun e w''=>e=.returned (.bool false)∧RPost b s ⟨r.pos,4⟩ w2 w''):=fun piece z=>qcc b 4 z s piece r w2 HH2.out (by omega)
   clear hb2 hw2
   refine (HD.out _ _).mono ?_
   rintro e w3 ⟨rfl,hP⟩
   have HP:=hI hP
   clear hP
   go_wp2
   go_ret
   rw [HNR.out]
   exact ⟨rfl,RPost.after HB2.out HP.out⟩
  ·have e1:((r.pos:Int) == (s.size:Int))=false:=by simp;omega
   have e2:(r.pos == s.size)=false:=by simp;omega
   have hlt2:r.pos < s.size:=by omega
   have kz:(r.pos:Int) < (s.size:Int):=by omega
   have k0:(0:Int)≤(r.pos:Int):=by omega
   clear hps hsl
   by_cases hx:1 < s[r.pos].toNat
   ·have HNR:=hI (qmo HE.out hlt2 hx)
    have hx1:decide (1 < (s[r.pos].toNat:Int))=true:=by simp;omega
    clear hx
    go_wp2_with fail
    go_quiet (fail)
    go_wp2_with fail
    go_quiet (fail)
    go_wp2_with fail
    generalize hw2:World.drewN w1 _=w2
    have hb2:Below w1.heap.size w1 w2:=by rw [←hw2];exact qao (Below.refl _ _) _
    have HH2:=hI (HH1.out.below hb2)
    have HB2:=hI (qad HB1.out hb2)
    have HD:Hid (∀ (piece:ByteArray) (z:Int),Calls Tryz.prog 134 #[.pointer (some ⟨b,0,none⟩),.string piece,.int .i64 z,.int .i64 5] w2 fun e w''=>e=.returned (.bool false)∧RPost b s ⟨r.pos,5⟩ w2 w''):=fun piece z=>qcc b 5 z s piece r w2 HH2.out (by omega)
    clear hb2 hw2
    refine (HD.out _ _).mono ?_
    rintro e w3 ⟨rfl,hP⟩
    have HP:=hI hP
    clear hP
    go_wp2
    go_ret
    rw [HNR.out]
    exact ⟨rfl,RPost.after HB2.out HP.out⟩
   ·have HNR:=hI (qqx HE.out hlt2 hx)
    have hx1:decide (1 < (s[r.pos].toNat:Int))=false:=by simp;omega
    clear hx
    go_wp2_with fail
    go_quiet (fail)
    go_wp2_with fail
    go_quiet (fail)
    go_wp2_with fail
    generalize hw2:World.drewN w1 _=w2
    have hb2:Below w1.heap.size w1 w2:=by rw [←hw2];exact qao (Below.refl _ _) _
    have HH2:=hI (HH1.out.below hb2)
    have HB2:=hI (qad HB1.out hb2)
    obtain ⟨ev2,hE2⟩:=HH2.out
    obtain ⟨d0,d1,_,_⟩:=hE2.cells
    clear hb2 hw2 hE2 c0 c1
    have HD:Hid (∀ (piece:ByteArray) (W:World),Rdr b s r W→Calls Tryz.prog 134 #[.pointer (some ⟨b,0,none⟩),.string piece,.int .i64 ((r.pos:Int) + 1),.int .i64 0] W fun e w''=>e=.returned (.bool true)∧RPost b s ⟨r.pos + 1,0⟩ W w''):=fun piece W hW=>qgq b (r.pos + 1) s piece r W hW HE.out (by omega)
    have wr1:IntKind.i64.wrap ((r.pos:Int) + 1)=(r.pos:Int) + 1:=IntWalk.i64_in _ (by omega)
    have wr2:IntKind.i64.wrap ((r.pos:Int) + 1 - 1)=(r.pos:Int):=by rw [IntWalk.i64_in _ (by omega)];omega
    have wr3:IntKind.i64.wrap (r.pos:Int)=(r.pos:Int):=IntWalk.i64_in _ (by omega)
    have kz:(r.pos:Int) < (s.size:Int):=by omega
    go_region_with (go_at_call 134;refine (HD.out _ _ (HH2.out.below (qao (Below.refl _ _) _))).mono ?_;rintro e w3 ⟨rfl,hP⟩;have hE3:=hP.1;have HP:=hI hP;obtain ⟨ev3,hE3⟩:=hE3;obtain ⟨f0,f1',_,_⟩:=hE3.cells;have f1:w3.cell? ⟨b,1,none⟩=some (.int .i64 ((r.pos:Int) + 1)):=(by rw [f1'];simp);clear f1' hE3 hP)
    all_goals
     go_wp2
     go_ret
     rw [HNR.out]
     refine ⟨qah ?_,RPost.after (qao HB2.out _) HP.out⟩
     first | rfl | (rw [Bool.eq_iff_iff];simp;done) | (rw [Bool.eq_iff_iff];simp;omega)
 ·have e0:(r.e == 0)=false:=by simp [he]
  rw [e0] at HG
  have HNR:Hid (qdu s.data.toList r=(r,false)):=qpb he
  clear e0 he
  go_enter Tryz.func99,Tryz.ntmps99
  go_wp2_with (go_at_call 132;refine HG.out.mono ?_;rintro e w1 ⟨rfl,hb1⟩;have HB1:=hI hb1;clear hb1)
  go_ret
  rw [HNR.out]
  exact ⟨rfl,RPost.of_below H.out HB1.out⟩
end Go.Proofs.YtjkecckndfcbjaaGreatDoor
namespace Go.Proofs.YtjkecckndfcbjaaGreatDoor
open Go.RowKit Go.Sort Nb
theorem Rdr.ne_glob {b:Nat} {s:ByteArray} {r:RS} {w:World} (h:Rdr b s r w) (hg:Glob w):b≠0:=by
 rintro rfl
 obtain ⟨ev,hE⟩:=h
 obtain ⟨c0,_⟩:=hE.cells
 unfold Glob at hg
 rw [hg] at c0
 cases c0
theorem Glob.rpost {b:Nat} {s:ByteArray} {r r':RS} {w w':World} (hg:Glob w) (h:Rdr b s r w) (hP:RPost b s r' w w'):Glob w' :=
 hP.2.cell hg (by intro e;injection e with e;exact h.ne_glob hg e.symm)
structure RSt (bx b:Nat) (s:ByteArray) (r:RS) (w:World):Prop where
 box:w.cell? ⟨bx,0,none⟩=some (.pointer (some ⟨b,0,none⟩))
 rd:Rdr b s r w
 gl:Glob w
theorem RSt.ne {bx b:Nat} {s:ByteArray} {r:RS} {w:World} (h:RSt bx b s r w):bx≠b:=by
 rintro rfl
 obtain ⟨ev,hE⟩:=h.rd
 obtain ⟨c0,_⟩:=hE.cells
 rw [h.box] at c0
 cases c0
theorem RSt.rpost {bx b:Nat} {s:ByteArray} {r r':RS} {w w':World} (h:RSt bx b s r w) (hP:RPost b s r' w w'):RSt bx b s r' w' :=
 ⟨hP.2.cell h.box (by intro e;injection e with e;exact h.ne e),hP.1,h.gl.rpost h.rd hP⟩
theorem RSt.below {bx b:Nat} {s:ByteArray} {r:RS} {w w':World} (h:RSt bx b s r w) (hb:Below w.heap.size w w'):RSt bx b s r w' :=
 ⟨(hb.cell (p:=⟨bx,0,none⟩) (qan h.box)).trans h.box,h.rd.below hb,h.gl.below hb⟩
theorem RSt.new {b:Nat} {s:ByteArray} {r:RS} {w:World} (h:Rdr b s r w) (hg:Glob w) (T:TypeId) (o:Obj):RSt w.heap.size b s r ((w.alloc (.cells #[.pointer (some ⟨b,0,none⟩)] T)).alloc o):=by
 have h1:RSt w.heap.size b s r (w.alloc (.cells #[.pointer (some ⟨b,0,none⟩)] T)):=⟨by rw [qjx];rfl,h.below (bel1 w _),hg.below (bel1 w _)⟩
 exact h1.below (bel1 _ _)
def qle (cs:Array Value):Prop:=∀ o op t x,cs[o]?=some (.string op)→cs[o + 1]?=some (.iface t x)→False
theorem qcd {w w':World} {g:Nat} {cs:Array Value} {T:TypeId} (hb:w.heap[g]?=some (.cells cs T (0,0))) (hn:qle cs) (hg:w.grownBy w' (some g)) :
 ∀ {ops:List ByteArray} {c:Int} {v:Value},Chain w ops c v→Chain w' ops c v
 | [],_,_,h=>h
 | _ :: _,_,_,⟨b',o,u,h1,h2,h3,h4,h5⟩=>by
   have hne:b'≠g:=by
    rintro rfl
    rw [qac hb] at h2 h3
    obtain ⟨t,x,rfl⟩:=qar h4
    exact hn _ _ _ _ h2 h3
   exact ⟨b',o,u,h1,hg.cell h2 (by intro e;injection e with e;exact hne e),hg.cell h3 (by intro e;injection e with e;exact hne e),qcd hb hn hg h4,by obtain ⟨c5,f5,h5⟩:=h5;exact ⟨c5,f5,(hg.block _ (Array.getElem?_eq_some_iff.1 h5).1 (by intro e;injection e with e;exact hne e)).trans h5⟩⟩
theorem Rdr.grown {b:Nat} {s:ByteArray} {r:RS} {w w':World} {g:Nat} {cs:Array Value} {T:TypeId} (h:Rdr b s r w) (hb:w.heap[g]?=some (.cells cs T (0,0))) (hn:qle cs) (hg:w.grownBy w' (some g)) (hne:b≠g):Rdr b s r w':=by
 obtain ⟨ev,h1,h2,h3⟩:=h
 refine ⟨ev,h1,(hg.block b (qaa h2) (by intro e;injection e with e;exact hne e)).trans h2,?_⟩
 rcases h3 with h3 | ⟨h3,op,ops,hl,h4⟩
 ·exact Or.inl h3
 ·exact Or.inr ⟨h3,op,ops,hl,qcd hb hn hg h4⟩
theorem RSt.grown {bx b:Nat} {s:ByteArray} {r:RS} {w w':World} {g:Nat} {cs:Array Value} {T:TypeId} (h:RSt bx b s r w) (hb:w.heap[g]?=some (.cells cs T (0,0))) (hn:qle cs) (hg:w.grownBy w' (some g)) (hne:b < g) (hnx:bx < g) (hgl:0 < g):RSt bx b s r w' :=
 ⟨hg.cell h.box (by intro e;injection e with e;simp only at e;omega),h.rd.grown hb hn hg (by omega),hg.cell h.gl (by intro e;injection e with e;simp only at e;omega)⟩
theorem qbd {w a:World} {b g:Nat} (h:w.grownBy a (some b)) (hg:w.heap.size≤g) (j:Nat) (u:Value):w.grownBy (a.setCell ⟨g,j,none⟩ u) (some b):=by
 have k:=qag (World.grownBy.refl a (some g)) (p:=⟨g,j,none⟩) rfl u
 exact ⟨k.os.trans h.os,k.tape.trans h.tape,k.output.trans h.output,Nat.le_trans h.size k.size,fun i hi hne=>(k.block i (Nat.lt_of_lt_of_le hi h.size) (by intro e;injection e with e;omega)).trans (h.block i hi hne)⟩
theorem qmp {w a c:World} {b:Option Nat} {row:Option Nat} (h:w.grownBy a b) (k:a.grownBy c row) (hrow:∀ g,row=some g→w.heap.size≤g):w.grownBy c b :=
 ⟨k.os.trans h.os,k.tape.trans h.tape,k.output.trans h.output,Nat.le_trans h.size k.size,fun i hi hne=>(k.block i (Nat.lt_of_lt_of_le hi h.size) (by intro e;have:=hrow i e.symm;omega)).trans (h.block i hi hne)⟩
theorem qap {w w':World} {g b:Nat} {o:Obj} (h:w.heap[g]?=some o) (hg:w.grownBy w' (some b)) (hne:g≠b):w'.heap[g]?=some o :=
 (hg.block g (qaa h) (by intro e;injection e with e;exact hne e)).trans h
theorem num1_any (bx b:Nat) (s:ByteArray) (r r':RS) (n:Nat) (w:World) (h:RSt bx b s r w) (hs:s.size≤1000000) (hR:numR s.data.toList 2000000 r=(r',n)) :
 Calls Tryz.prog 162 #[.pointer (some ⟨bx,0,none⟩)] w fun e w'=>e=.returned (.int .i64 (n:Int))∧RSt bx b s r' w'∧w.grownBy w' (some b):=by
 have HC:Hid (Calls Tryz.prog 97 #[.pointer (some ⟨b,0,none⟩),.int .i64 2000000] w fun e w'=>e=.returned (.int .i64 (n:Int))∧RPost b s r' w w'):=by
  have:=qoe b s r 2000000 w h.rd h.gl hs
  rw [hR,show ((2000000:Nat):Int)=2000000 by omega] at this
  exact this
 have c0:=h.box
 have H:=hI h
 clear h hR
 go_enter Tryz.func162,Tryz.ntmps162
 go_wp2_with (go_at_call 97;refine HC.out.mono ?_;rintro e w' ⟨rfl,hP⟩;have HP:=hI hP;clear hP)
 go_ret
 exact ⟨rfl,H.out.rpost HP.out,HP.out.2⟩
theorem qvl:(Tryz.prog.info? 265).map (fun i=>(i.zero,i.size,i.bytes))=some (some (.agg #[.int .i64 0,.int .i64 0]),2,16):=by kernel_rfl
theorem qia {w:World} {g:Nat} {y0 y1 y2 y3 y4 y5 y6 y7 y8 y9 y10 y11 y12 y13:Value} {T:TypeId} (h:w.heap[g]?=some (.cells #[y0,y1,y2,y3,y4,y5,y6,y7,y8,y9,y10,y11,y12,y13] T (0,0))) (z0 z1 z2 z3 z4 z5 z6 z7 z8 z9 z10 z11 z12 z13:Value) :
 ((((((((((((((w.setCell ⟨g,0,none⟩ z0).setCell ⟨g,1,none⟩ z1).setCell ⟨g,2,none⟩ z2).setCell ⟨g,3,none⟩ z3).setCell ⟨g,4,none⟩ z4).setCell ⟨g,5,none⟩ z5).setCell ⟨g,6,none⟩ z6).setCell ⟨g,7,none⟩ z7).setCell ⟨g,8,none⟩ z8).setCell ⟨g,9,none⟩ z9).setCell ⟨g,10,none⟩ z10).setCell ⟨g,11,none⟩ z11).setCell ⟨g,12,none⟩ z12).setCell ⟨g,13,none⟩ z13).heap[g]?=some (.cells #[z0,z1,z2,z3,z4,z5,z6,z7,z8,z9,z10,z11,z12,z13] T (0,0)):=by
 have h0:(w.setCell ⟨g,0,none⟩ z0).heap[g]?=some (.cells #[z0,y1,y2,y3,y4,y5,y6,y7,y8,y9,y10,y11,y12,y13] T (0,0)):=qae h 0 z0
 have h1:((w.setCell ⟨g,0,none⟩ z0).setCell ⟨g,1,none⟩ z1).heap[g]?=some (.cells #[z0,z1,y2,y3,y4,y5,y6,y7,y8,y9,y10,y11,y12,y13] T (0,0)):=qae h0 1 z1
 have h2:(((w.setCell ⟨g,0,none⟩ z0).setCell ⟨g,1,none⟩ z1).setCell ⟨g,2,none⟩ z2).heap[g]?=some (.cells #[z0,z1,z2,y3,y4,y5,y6,y7,y8,y9,y10,y11,y12,y13] T (0,0)):=qae h1 2 z2
 have h3:((((w.setCell ⟨g,0,none⟩ z0).setCell ⟨g,1,none⟩ z1).setCell ⟨g,2,none⟩ z2).setCell ⟨g,3,none⟩ z3).heap[g]?=some (.cells #[z0,z1,z2,z3,y4,y5,y6,y7,y8,y9,y10,y11,y12,y13] T (0,0)):=qae h2 3 z3
 have h4:(((((w.setCell ⟨g,0,none⟩ z0).setCell ⟨g,1,none⟩ z1).setCell ⟨g,2,none⟩ z2).setCell ⟨g,3,none⟩ z3).setCell ⟨g,4,none⟩ z4).heap[g]?=some (.cells #[z0,z1,z2,z3,z4,y5,y6,y7,y8,y9,y10,y11,y12,y13] T (0,0)):=qae h3 4 z4
 have h5:((((((w.setCell ⟨g,0,none⟩ z0).setCell ⟨g,1,none⟩ z1).setCell ⟨g,2,none⟩ z2).setCell ⟨g,3,none⟩ z3).setCell ⟨g,4,none⟩ z4).setCell ⟨g,5,none⟩ z5).heap[g]?=some (.cells #[z0,z1,z2,z3,z4,z5,y6,y7,y8,y9,y10,y11,y12,y13] T (0,0)):=qae h4 5 z5
 have h6:(((((((w.setCell ⟨g,0,none⟩ z0).setCell ⟨g,1,none⟩ z1).setCell ⟨g,2,none⟩ z2).setCell ⟨g,3,none⟩ z3).setCell ⟨g,4,none⟩ z4).setCell ⟨g,5,none⟩ z5).setCell ⟨g,6,none⟩ z6).heap[g]?=some (.cells #[z0,z1,z2,z3,z4,z5,z6,y7,y8,y9,y10,y11,y12,y13] T (0,0)):=qae h5 6 z6
 have h7:((((((((w.setCell ⟨g,0,none⟩ z0).setCell ⟨g,1,none⟩ z1).setCell ⟨g,2,none⟩ z2).setCell ⟨g,3,none⟩ z3).setCell ⟨g,4,none⟩ z4).setCell ⟨g,5,none⟩ z5).setCell ⟨g,6,none⟩ z6).setCell ⟨g,7,none⟩ z7).heap[g]?=some (.cells #[z0,z1,z2,z3,z4,z5,z6,z7,y8,y9,y10,y11,y12,y13] T (0,0)):=qae h6 7 z7
 have h8:(((((((((w.setCell ⟨g,0,none⟩ z0).setCell ⟨g,1,none⟩ z1).setCell ⟨g,2,none⟩ z2).setCell ⟨g,3,none⟩ z3).setCell ⟨g,4,none⟩ z4).setCell ⟨g,5,none⟩ z5).setCell ⟨g,6,none⟩ z6).setCell ⟨g,7,none⟩ z7).setCell ⟨g,8,none⟩ z8).heap[g]?=some (.cells #[z0,z1,z2,z3,z4,z5,z6,z7,z8,y9,y10,y11,y12,y13] T (0,0)):=qae h7 8 z8
 have h9:((((((((((w.setCell ⟨g,0,none⟩ z0).setCell ⟨g,1,none⟩ z1).setCell ⟨g,2,none⟩ z2).setCell ⟨g,3,none⟩ z3).setCell ⟨g,4,none⟩ z4).setCell ⟨g,5,none⟩ z5).setCell ⟨g,6,none⟩ z6).setCell ⟨g,7,none⟩ z7).setCell ⟨g,8,none⟩ z8).setCell ⟨g,9,none⟩ z9).heap[g]?=some (.cells #[z0,z1,z2,z3,z4,z5,z6,z7,z8,z9,y10,y11,y12,y13] T (0,0)):=qae h8 9 z9
 have h10:(((((((((((w.setCell ⟨g,0,none⟩ z0).setCell ⟨g,1,none⟩ z1).setCell ⟨g,2,none⟩ z2).setCell ⟨g,3,none⟩ z3).setCell ⟨g,4,none⟩ z4).setCell ⟨g,5,none⟩ z5).setCell ⟨g,6,none⟩ z6).setCell ⟨g,7,none⟩ z7).setCell ⟨g,8,none⟩ z8).setCell ⟨g,9,none⟩ z9).setCell ⟨g,10,none⟩ z10).heap[g]?=some (.cells #[z0,z1,z2,z3,z4,z5,z6,z7,z8,z9,z10,y11,y12,y13] T (0,0)):=qae h9 10 z10
 have h11:((((((((((((w.setCell ⟨g,0,none⟩ z0).setCell ⟨g,1,none⟩ z1).setCell ⟨g,2,none⟩ z2).setCell ⟨g,3,none⟩ z3).setCell ⟨g,4,none⟩ z4).setCell ⟨g,5,none⟩ z5).setCell ⟨g,6,none⟩ z6).setCell ⟨g,7,none⟩ z7).setCell ⟨g,8,none⟩ z8).setCell ⟨g,9,none⟩ z9).setCell ⟨g,10,none⟩ z10).setCell ⟨g,11,none⟩ z11).heap[g]?=some (.cells #[z0,z1,z2,z3,z4,z5,z6,z7,z8,z9,z10,z11,y12,y13] T (0,0)):=qae h10 11 z11
 have h12:(((((((((((((w.setCell ⟨g,0,none⟩ z0).setCell ⟨g,1,none⟩ z1).setCell ⟨g,2,none⟩ z2).setCell ⟨g,3,none⟩ z3).setCell ⟨g,4,none⟩ z4).setCell ⟨g,5,none⟩ z5).setCell ⟨g,6,none⟩ z6).setCell ⟨g,7,none⟩ z7).setCell ⟨g,8,none⟩ z8).setCell ⟨g,9,none⟩ z9).setCell ⟨g,10,none⟩ z10).setCell ⟨g,11,none⟩ z11).setCell ⟨g,12,none⟩ z12).heap[g]?=some (.cells #[z0,z1,z2,z3,z4,z5,z6,z7,z8,z9,z10,z11,z12,y13] T (0,0)):=qae h11 12 z12
 have h13:((((((((((((((w.setCell ⟨g,0,none⟩ z0).setCell ⟨g,1,none⟩ z1).setCell ⟨g,2,none⟩ z2).setCell ⟨g,3,none⟩ z3).setCell ⟨g,4,none⟩ z4).setCell ⟨g,5,none⟩ z5).setCell ⟨g,6,none⟩ z6).setCell ⟨g,7,none⟩ z7).setCell ⟨g,8,none⟩ z8).setCell ⟨g,9,none⟩ z9).setCell ⟨g,10,none⟩ z10).setCell ⟨g,11,none⟩ z11).setCell ⟨g,12,none⟩ z12).setCell ⟨g,13,none⟩ z13).heap[g]?=some (.cells #[z0,z1,z2,z3,z4,z5,z6,z7,z8,z9,z10,z11,z12,z13] T (0,0)):=qae h12 13 z13
 exact h13
theorem grown14 {w a:World} {b g:Nat} (h:w.grownBy a (some b)) (hg:w.heap.size≤g) (z0 z1 z2 z3 z4 z5 z6 z7 z8 z9 z10 z11 z12 z13:Value):w.grownBy ((((((((((((((a.setCell ⟨g,0,none⟩ z0).setCell ⟨g,1,none⟩ z1).setCell ⟨g,2,none⟩ z2).setCell ⟨g,3,none⟩ z3).setCell ⟨g,4,none⟩ z4).setCell ⟨g,5,none⟩ z5).setCell ⟨g,6,none⟩ z6).setCell ⟨g,7,none⟩ z7).setCell ⟨g,8,none⟩ z8).setCell ⟨g,9,none⟩ z9).setCell ⟨g,10,none⟩ z10).setCell ⟨g,11,none⟩ z11).setCell ⟨g,12,none⟩ z12).setCell ⟨g,13,none⟩ z13) (some b) :=
 qbd (qbd (qbd (qbd (qbd (qbd (qbd (qbd (qbd (qbd (qbd (qbd (qbd (qbd h hg 0 z0) hg 1 z1) hg 2 z2) hg 3 z3) hg 4 z4) hg 5 z5) hg 6 z6) hg 7 z7) hg 8 z8) hg 9 z9) hg 10 z10) hg 11 z11) hg 12 z12) hg 13 z13
theorem qib (a:World) (g:Nat) (z0 z1 z2 z3 z4 z5 z6 z7 z8 z9 z10 z11 z12 z13:Value):a.grownBy ((((((((((((((a.setCell ⟨g,0,none⟩ z0).setCell ⟨g,1,none⟩ z1).setCell ⟨g,2,none⟩ z2).setCell ⟨g,3,none⟩ z3).setCell ⟨g,4,none⟩ z4).setCell ⟨g,5,none⟩ z5).setCell ⟨g,6,none⟩ z6).setCell ⟨g,7,none⟩ z7).setCell ⟨g,8,none⟩ z8).setCell ⟨g,9,none⟩ z9).setCell ⟨g,10,none⟩ z10).setCell ⟨g,11,none⟩ z11).setCell ⟨g,12,none⟩ z12).setCell ⟨g,13,none⟩ z13) (some g) :=
 qag (qag (qag (qag (qag (qag (qag (qag (qag (qag (qag (qag (qag (qag (World.grownBy.refl a (some g)) (p:=⟨g,0,none⟩) rfl z0) (p:=⟨g,1,none⟩) rfl z1) (p:=⟨g,2,none⟩) rfl z2) (p:=⟨g,3,none⟩) rfl z3) (p:=⟨g,4,none⟩) rfl z4) (p:=⟨g,5,none⟩) rfl z5) (p:=⟨g,6,none⟩) rfl z6) (p:=⟨g,7,none⟩) rfl z7) (p:=⟨g,8,none⟩) rfl z8) (p:=⟨g,9,none⟩) rfl z9) (p:=⟨g,10,none⟩) rfl z10) (p:=⟨g,11,none⟩) rfl z11) (p:=⟨g,12,none⟩) rfl z12) (p:=⟨g,13,none⟩) rfl z13
theorem qqy {w a:World} {g:Nat} (h:Below w.heap.size w a) (hg:w.heap.size≤g) (z0 z1 z2 z3 z4 z5 z6 z7 z8 z9 z10 z11 z12 z13:Value):Below w.heap.size w ((((((((((((((a.setCell ⟨g,0,none⟩ z0).setCell ⟨g,1,none⟩ z1).setCell ⟨g,2,none⟩ z2).setCell ⟨g,3,none⟩ z3).setCell ⟨g,4,none⟩ z4).setCell ⟨g,5,none⟩ z5).setCell ⟨g,6,none⟩ z6).setCell ⟨g,7,none⟩ z7).setCell ⟨g,8,none⟩ z8).setCell ⟨g,9,none⟩ z9).setCell ⟨g,10,none⟩ z10).setCell ⟨g,11,none⟩ z11).setCell ⟨g,12,none⟩ z12).setCell ⟨g,13,none⟩ z13) :=
 (((((((((((((h.setCell (p:=⟨g,0,none⟩) hg z0).setCell (p:=⟨g,1,none⟩) hg z1).setCell (p:=⟨g,2,none⟩) hg z2).setCell (p:=⟨g,3,none⟩) hg z3).setCell (p:=⟨g,4,none⟩) hg z4).setCell (p:=⟨g,5,none⟩) hg z5).setCell (p:=⟨g,6,none⟩) hg z6).setCell (p:=⟨g,7,none⟩) hg z7).setCell (p:=⟨g,8,none⟩) hg z8).setCell (p:=⟨g,9,none⟩) hg z9).setCell (p:=⟨g,10,none⟩) hg z10).setCell (p:=⟨g,11,none⟩) hg z11).setCell (p:=⟨g,12,none⟩) hg z12).setCell (p:=⟨g,13,none⟩) hg z13
theorem qbp {w:World} {g:Nat} {z0 z1 z2 z3 z4 z5 z6 z7 z8 z9 z10 z11 z12 z13:Value} {T:TypeId} (h:w.heap[g]?=some (.cells #[z0,z1,z2,z3,z4,z5,z6,z7,z8,z9,z10,z11,z12,z13] T (0,0))) :
 w.cell? ⟨g,0,none⟩=some z0∧w.frozen? ⟨g,0,none⟩=false∧w.cell? ⟨g,1,none⟩=some z1∧w.frozen? ⟨g,1,none⟩=false∧w.cell? ⟨g,2,none⟩=some z2∧w.frozen? ⟨g,2,none⟩=false∧w.cell? ⟨g,3,none⟩=some z3∧w.frozen? ⟨g,3,none⟩=false∧w.cell? ⟨g,4,none⟩=some z4∧w.frozen? ⟨g,4,none⟩=false∧w.cell? ⟨g,5,none⟩=some z5∧w.frozen? ⟨g,5,none⟩=false∧w.cell? ⟨g,6,none⟩=some z6∧w.frozen? ⟨g,6,none⟩=false∧w.cell? ⟨g,7,none⟩=some z7∧w.frozen? ⟨g,7,none⟩=false∧w.cell? ⟨g,8,none⟩=some z8∧w.frozen? ⟨g,8,none⟩=false∧w.cell? ⟨g,9,none⟩=some z9∧w.frozen? ⟨g,9,none⟩=false∧w.cell? ⟨g,10,none⟩=some z10∧w.frozen? ⟨g,10,none⟩=false∧w.cell? ⟨g,11,none⟩=some z11∧w.frozen? ⟨g,11,none⟩=false∧w.cell? ⟨g,12,none⟩=some z12∧w.frozen? ⟨g,12,none⟩=false∧w.cell? ⟨g,13,none⟩=some z13∧w.frozen? ⟨g,13,none⟩=false:=by
 refine ⟨?_,?_,?_,?_,?_,?_,?_,?_,?_,?_,?_,?_,?_,?_,?_,?_,?_,?_,?_,?_,?_,?_,?_,?_,?_,?_,?_,?_⟩
 all_goals first | exact Lib.frozen_of_heap h _ | (rw [qac h];rfl)
def ReadP (b:Nat) (s:ByteArray) (w:World) (e:Ending) (w':World):Prop:=∃ aA aC mA mC,e=.returned (.tuple #[msgV (pmOf (qbb s.data.toList) aA aC mA mC),.bool (decide ((qbb s.data.toList).l.length % 2=0))])∧RdM w' (pmOf (qbb s.data.toList) aA aC mA mC)∧RPost b s (qbb s.data.toList).r w w'∧(∀ a,aA=some a→w.heap.size≤a.block)∧(∀ a,mA=some a→w.heap.size≤a.block)
def ReadL (g:Nat) (cs:Value→Array Value) (l:List Nat) (W:World) (iv:Value) (wr:World):Prop:=∃ (k i:Nat) (v:Value),iv=.int .i64 ((i:Int) + 1)∧i=2 * k∧i≤l.length∧wr.heap[g]?=some (.cells (cs v) 247 (0,0))∧wr.ownsRow W.heap.size 265 2 v (unfl (l.take i)).toArray.size (flatK encA 2 (unfl (l.take i)).toArray).toList∧W.grownBy wr (some g)
end Go.Proofs.YtjkecckndfcbjaaGreatDoor
