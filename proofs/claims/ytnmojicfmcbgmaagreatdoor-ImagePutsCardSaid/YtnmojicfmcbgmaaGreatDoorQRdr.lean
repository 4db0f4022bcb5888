/- Texts that the law leans on. -/
import Derived.Deep.RegionHeld3
import Derived.Deep.DrawnRows
import Derived.IntWalk
import Derived.Test.YtnmojicfmcbgmaaGreatDoorQRowA
import Derived.Test.YtnmojicfmcbgmaaGreatDoorQErrA
namespace Go.Proofs.YtnmojicfmcbgmaaGreatDoor
open Go.RowKit Nb
def RdrE (b:Nat) (s:ByteArray) (r:RS) (ev:Value) (w:World):Prop:=r.pos≤s.size∧w.heap[b]?=some (.cells #[.string s,.int .i64 (r.pos:Int),ev,.bool true] 149 (0,0)) ∧
 ((r.e=0∧ev=.nilIface)∨(r.e≠0∧∃ op ops,ops.length≤5∧Chain w (op :: ops) (r.e:Int) ev))
def Rdr (b:Nat) (s:ByteArray) (r:RS) (w:World):Prop:=∃ ev,RdrE b s r ev w
theorem RdrE.below {b:Nat} {s:ByteArray} {r:RS} {ev:Value} {w w':World} (h:RdrE b s r ev w) (hb:Below w.heap.size w w'):RdrE b s r ev w':=by
 obtain ⟨h1,h2,h3⟩:=h
 refine ⟨h1,(hb.block b (qaa h2)).trans h2,?_⟩
 rcases h3 with h3 | ⟨h3,op,ops,hl,h4⟩
 ·exact Or.inl h3
 ·exact Or.inr ⟨h3,op,ops,hl,h4.below hb⟩
theorem Rdr.below {b:Nat} {s:ByteArray} {r:RS} {w w':World} (h:Rdr b s r w) (hb:Below w.heap.size w w'):Rdr b s r w':=by
 obtain ⟨ev,h⟩:=h
 exact ⟨ev,h.below hb⟩
theorem RdrE.cells {b:Nat} {s:ByteArray} {r:RS} {ev:Value} {w:World} (h:RdrE b s r ev w):w.cell? ⟨b,0,none⟩=some (.string s)∧w.cell? ⟨b,1,none⟩=some (.int .i64 (r.pos:Int))∧w.cell? ⟨b,2,none⟩=some ev∧w.cell? ⟨b,3,none⟩=some (.bool true):=by
 obtain ⟨h1,h2,h3⟩:=h
 exact ⟨by rw [qab h2];rfl,by rw [qab h2];rfl,by rw [qab h2];rfl,by rw [qab h2];rfl⟩
theorem Rdr.lt {b:Nat} {s:ByteArray} {r:RS} {w:World} (h:Rdr b s r w):b < w.heap.size:=by obtain ⟨ev,_,h2,_⟩:=h;exact qaa h2
theorem Rdr.pos_le {b:Nat} {s:ByteArray} {r:RS} {w:World} (h:Rdr b s r w):r.pos≤s.size:=by obtain ⟨ev,h1,_⟩:=h;exact h1
theorem qex {w w':World} (h:Below w.heap.size w w') (row:Option Nat):w.grownBy w' row:=⟨h.os,h.tape,h.output,h.size,fun i hi _=>h.block i hi⟩
theorem qte {a b c:World} {row:Option Nat} (h:a.grownBy b row) (k:b.grownBy c row):a.grownBy c row :=
 ⟨k.os.trans h.os,k.tape.trans h.tape,k.output.trans h.output,Nat.le_trans h.size k.size,fun i hi hne=>(k.block i (Nat.lt_of_lt_of_le hi h.size) hne).trans (h.block i hi hne)⟩
theorem qct {w:World} {ops:List ByteArray} {c:Int} {v:Value} (h:Chain w ops c v):∃ t u,v=.iface t u:=by
 cases ops with
 | nil=>exact ⟨_,_,h⟩
 | cons op ops=>obtain ⟨b,o,u,rfl,_⟩:=h;exact ⟨_,_,rfl⟩
theorem RdrE.notStr {b:Nat} {s:ByteArray} {r:RS} {ev:Value} {w:World} (h:RdrE b s r ev w):∀ x,ev≠.string x:=by
 intro x e
 subst e
 rcases h.2.2 with ⟨_,h⟩ | ⟨_,op,ops,_,h⟩
 ·cases h
 ·obtain ⟨t,u,h⟩:=qct h;cases h
theorem qrh {w:World} {b:Nat} {s:ByteArray} {n:Int} {ev z:Value} {m:Bool} {T:TypeId} (hb:w.heap[b]?=some (.cells #[.string s,.int .i64 n,ev,.bool m] T (0,0))) (hev:∀ x,ev≠.string x) {j:Nat} :
 ∀ {ops:List ByteArray} {c:Int} {v:Value},Chain w ops c v→Chain (w.setCell ⟨b,j,none⟩ z) ops c v
 | [],_,_,h=>h
 | _ :: _,_,_,⟨b',o,u,h1,h2,h3,h4,h5⟩=>by
   have hne:b'≠b:=by
    rintro rfl
    rw [qab hb] at h2 h3
    match o,h2,h3 with
    | 0,_,h3 =>
      simp at h3
      obtain ⟨t,u',hu⟩:=qct h4
      rw [←h3] at hu
      cases hu
    | 1,h2,_=>simp at h2
    | 2,h2,_=>simp at h2;exact hev _ h2
    | 3,h2,_=>simp at h2
    | o + 4,h2,_=>simp at h2
   have k:∀ x,(w.setCell ⟨b,j,none⟩ z).cell? ⟨b',x,none⟩=w.cell? ⟨b',x,none⟩:=fun x=>World.cell?_of_block (a:=⟨b',x,none⟩) (Below.heap_setCell w ⟨b,j,none⟩ z b' hne)
   obtain ⟨c5,f5,h5⟩:=h5
   exact ⟨b',o,u,h1,(k o).trans h2,(k (o + 1)).trans h3,qrh hb hev h4,c5,f5,(Below.heap_setCell w ⟨b,j,none⟩ z b' hne).trans h5⟩
def RPost (b:Nat) (s:ByteArray) (r:RS) (w w':World):Prop:=Rdr b s r w'∧w.grownBy w' (some b)
theorem RNew_any (s:ByteArray) (w:World) :
 Calls Tryz.prog 38 #[.string s] w fun e w'=>e=.returned (.pointer (some ⟨w.heap.size,0,none⟩))∧w'=w.alloc (.cells #[.string s,.int .i64 0,.nilIface,.bool true] 149):=by
 go_enter Tryz.func38,Tryz.ntmps38
 go_wp2
 go_ret
 exact ⟨rfl,rfl⟩
theorem Rdr.new (s:ByteArray) (w:World):Rdr w.heap.size s ⟨0,0⟩ (w.alloc (.cells #[.string s,.int .i64 0,.nilIface,.bool true] 149)) :=
 ⟨.nilIface,Nat.zero_le _,by show (w.heap.push _)[w.heap.size]?=_;simp,Or.inl ⟨rfl,rfl⟩⟩
theorem qkq (b:Nat) (s:ByteArray) (r:RS) (w:World) (h:Rdr b s r w) (hg:Glob w) :
 Calls Tryz.prog 91 #[.pointer (some ⟨b,0,none⟩)] w fun e w'=>e=.returned (.bool (r.e == 0))∧Below w.heap.size w w':=by
 obtain ⟨ev,h⟩:=h
 obtain ⟨c0,c1,c2,c3⟩:=h.cells
 have hlt:b < w.heap.size:=qaa h.2.1
 rcases h.2.2 with ⟨he,rfl⟩ | ⟨he,op,ops,_,hch⟩
 ·have e0:(r.e == 0)=true:=by simp [he]
  rw [e0]
  have HA:=hI (fun t W=>AsNil_any t W)
  clear h hg he e0
  go_enter Tryz.func91,Tryz.ntmps91
  go_wp2_with (go_at_call 49;refine (HA.out _ _).mono ?_;rintro e w' ⟨rfl,rfl⟩)
  go_ret
  exact ⟨rfl,bel1 w _⟩
 ·have e0:(r.e == 0)=false:=by simp [he]
  rw [e0]
  obtain ⟨b',o',u,rfl,_⟩:=hch
  have HA:=hI (AsF_any ⟨b',o',none⟩ ⟨w.heap.size,0,none⟩ (.pointer none) (w.alloc (.cells #[.pointer none] 124)) (hg.below (bel1 w _)) (by simp) (by simp))
  clear h hg he e0
  go_enter Tryz.func91,Tryz.ntmps91
  go_wp2_with (go_at_call 49;refine HA.out.mono ?_;rintro e w' ⟨rfl,hh⟩;have HG:=hI hh.grown;clear hh)
  go_ret
  exact ⟨rfl,qca (bel1 w _) HG.out (Nat.le_refl _)⟩
theorem qjz (b q:Nat) (s piece:ByteArray) (r:RS) (w:World) (h:Rdr b s r w) (he:r.e=0) (hq:q≤s.size) :
 Calls Tryz.prog 92 #[.pointer (some ⟨b,0,none⟩),.string piece,.int .i64 q,.int .i64 0] w fun e w'=>e=.returned (.bool true)∧RPost b s ⟨q,0⟩ w w':=by
 obtain ⟨ev,h⟩:=h
 obtain ⟨c0,c1,c2,c3⟩:=h.cells
 have f1:w.frozen? ⟨b,1,none⟩=false:=Lib.frozen_of_heap h.2.1 1
 have HH:=hI h
 have HQ:=hI hq
 have HE:=hI he
 clear h he hq
 go_enter Tryz.func92,Tryz.ntmps92
 go_wp2
 go_ret
 refine ⟨rfl,⟨.nilIface,HQ.out,?_,Or.inl ⟨rfl,rfl⟩⟩,qal (World.grownBy.refl w _) rfl _⟩
 rcases HH.out.2.2 with ⟨_,rfl⟩ | ⟨hn,_⟩
 ·rw [qaj HH.out.2.1];rfl
 ·exact absurd HE.out hn
def readW:ByteArray:=⟨#[114,101,97,100]⟩
theorem qdk (b c:Nat) (q:Int) (s piece:ByteArray) (r:RS) (w:World) (h:Rdr b s r w) (hc:c≠0) :
 Calls Tryz.prog 92 #[.pointer (some ⟨b,0,none⟩),.string piece,.int .i64 q,.int .i64 c] w fun e w'=>e=.returned (.bool false)∧RPost b s ⟨r.pos,c⟩ w w':=by
 obtain ⟨ev,h⟩:=h
 have hlt:b < w.heap.size:=qaa h.2.1
 have hc0:((c:Int) != 0)=true:=by simpa using hc
 have HN:=hI (qhy piece (c:Int) w (by omega))
 have HH:=hI h
 have HC:=hI hc
 clear h hc
 go_enter Tryz.func92,Tryz.ntmps92
 go_wp2_with fail
 refine HN.out.mono ?_
 rintro e w1 ⟨v1,rfl,hch1,hb1⟩
 have HWr:=hI (qur readW [piece] (c:Int) v1 w1 hch1)
 have HB1:=hI hb1
 clear hch1 hb1
 go_wp2_with fail
 refine HWr.out.mono ?_
 rintro e w2 ⟨v2,rfl,hch2,hb2⟩
 have hbb:=qac HB1.out hb2
 have hE2:=HH.out.below hbb
 obtain ⟨c0,c1,c2,c3⟩:=hE2.cells
 have f2:w2.frozen? ⟨b,2,none⟩=false:=Lib.frozen_of_heap hE2.2.1 2
 have HE2:=hI hE2
 have HCH:=hI hch2
 have HBB:=hI hbb
 obtain ⟨b2,o2,u2,rfl,_⟩:=hch2
 clear hE2 hbb hb2
 go_wp2
 go_ret
 refine ⟨rfl,⟨_,HE2.out.1,by rw [qaj HE2.out.2.1];rfl,Or.inr ⟨HC.out,readW,[piece],by simp,?_⟩⟩,qal (qex HBB.out _) rfl _⟩
 exact qrh HE2.out.2.1 HE2.out.notStr HCH.out
theorem RPost.of_below {b:Nat} {s:ByteArray} {r:RS} {w w':World} (h:Rdr b s r w) (hb:Below w.heap.size w w'):RPost b s r w w':=⟨h.below hb,qex hb _⟩
theorem RPost.after {b:Nat} {s:ByteArray} {r:RS} {w w1 w2:World} (hb:Below w.heap.size w w1) (h:RPost b s r w1 w2):RPost b s r w w2:=⟨h.1,qte (qex hb _) h.2⟩
set_option maxRecDepth 100000 in
set_option maxHeartbeats 4000000 in
theorem qvy (b:Nat) (s:ByteArray) (r:RS) (most:Nat) (w:World) (h:Rdr b s r w) (hg:Glob w) (hs:s.size≤1000000) :
 Calls Tryz.prog 77 #[.pointer (some ⟨b,0,none⟩),.int .i64 most] w fun e w'=>e=.returned (.int .i64 ((numR s.data.toList most r).2:Int))∧RPost b s (numR s.data.toList most r).1 w w':=by
 have HG:=hI (qkq b s r w h hg)
 have H:=hI h
 clear h hg
 by_cases he:r.e=0
 ·have e0:(r.e == 0)=true:=by simp [he]
  rw [e0] at HG
  have HE:=hI he
  have hp:=H.out.pos_le
  clear e0 he
  go_enter Tryz.func77,Tryz.ntmps77
  go_wp2_with fail
  refine HG.out.mono ?_
  rintro e w1 ⟨rfl,hb1⟩
  have h1:=H.out.below hb1
  have HH1:=hI h1
  have HB1:=hI hb1
  obtain ⟨ev,hE⟩:=h1
  obtain ⟨c0,c1,_,_⟩:=hE.cells
  have hlt:b < w1.heap.size:=qaa hE.2.1
  have q0:∀ p:ExtW w1,p.to.cell? ⟨b,0,none⟩=some (.string s):=fun p=>(p.h.cell (p:=⟨b,0,none⟩) hlt).trans c0
  have q1:∀ p:ExtW w1,p.to.cell? ⟨b,1,none⟩=some (.int .i64 (r.pos:Int)):=fun p=>(p.h.cell (p:=⟨b,1,none⟩) hlt).trans c1
  clear hE hb1 c0 c1
  cases hgl:getL (s.data.toList.drop r.pos) with
  | no c =>
    have HGE:=hI (fun W=>qwj s r.pos c W hp hs hgl)
    have hc:=qeu hgl
    have hc0:((c:Int) == 0)=false:=by simp;omega
    have hc1:c≠0:=by omega
    have HNR:=hI (numR_no (most:=most) HE.out hgl)
    have HC1:=hI hc1
    clear hgl hc hc1
    go_wp2_with fail
    refine qae (by kernel_rfl) (by kernel_rfl) ?_
    repeat (first | go_big_quiet_step ((go_at_call 132;exact Calls.ext_same (HGE.out _))) | quiet_step ((go_at_call 132;exact Calls.ext_same (HGE.out _))))
    refine wpQuiet_nil ?_
    intro w' hw'
    obtain ⟨⟨W,hbW⟩,hw''⟩:=hw'
    have hw3:w'=W:=hw''
    subst hw3
    have HH2:=hI (HH1.out.below hbW)
    have HB2:=hI (qac HB1.out hbW)
    obtain ⟨ev2,hE2⟩:=HH2.out
    obtain ⟨d0,_,_,_⟩:=hE2.cells
    clear hbW hw'' hE2
    have HD:=hI (fun (piece:ByteArray) (z:Int)=>qdk b c z s piece r w' HH2.out HC1.out)
    go_wp2_with (go_at_call 92;(with_reducible refine (HD.out _ _).mono ?_);rintro e w' ⟨rfl,hP⟩;have HP:=hI hP;clear hP)
    go_ret
    rw [HNR.out]
    exact ⟨rfl,RPost.after HB2.out HP.out⟩
  | ok n k =>
    have HGE:=hI (fun W=>qwi s r.pos n k W hp hs hgl)
    obtain ⟨-,-,hk,hn⟩:=qdi hgl
    have hk2:r.pos + k≤s.size:=by rw [List.length_drop] at hk;simp at hk;omega
    obtain ⟨q,hq⟩:∃ q,r.pos + k=q:=⟨_,rfl⟩
    rw [hq] at HGE hk2
    by_cases hbig:most < n
    ·have HNR:=hI (qud HE.out hgl hbig)
     clear hgl hk hq
     have hb3:(most:Int) < (n:Int):=by omega
     clear hn
     go_wp2_with fail
     refine qae (by kernel_rfl) (by kernel_rfl) ?_
     repeat (first | go_big_quiet_step ((go_at_call 132;exact Calls.ext_same (HGE.out _))) | quiet_step ((go_at_call 132;exact Calls.ext_same (HGE.out _))))
     refine wpQuiet_nil ?_
     intro w' hw'
     obtain ⟨⟨W,hbW⟩,hw''⟩:=hw'
     have hw3:w'=W:=hw''
     subst hw3
     have HH2:=hI (HH1.out.below hbW)
     have HB2:=hI (qac HB1.out hbW)
     obtain ⟨ev2,hE2⟩:=HH2.out
     obtain ⟨d0,_,_,_⟩:=hE2.cells
     clear hbW hw'' hE2
     have HD:Hid (∀ (piece:ByteArray) (z:Int),Calls Tryz.prog 92 #[.pointer (some ⟨b,0,none⟩),.string piece,.int .i64 z,.int .i64 3] w' fun e w''=>e=.returned (.bool false)∧RPost b s ⟨r.pos,3⟩ w' w''):=fun piece z=>qdk b 3 z s piece r w' HH2.out (by omega)
     go_wp2_with (go_at_call 92;(with_reducible refine (HD.out _ _).mono ?_);rintro e w' ⟨rfl,hP⟩;have HP:=hI hP;clear hP)
     go_ret
     rw [HNR.out]
     exact ⟨rfl,RPost.after HB2.out HP.out⟩
    ·have HNR:=hI (que HE.out hgl hbig)
     rw [hq] at HNR
     clear hgl hk hq
     have hb3:decide ((most:Int) < (n:Int))=false:=by simp;omega
     have hb4:decide (most < n)=false:=by simp;omega
     clear hn hbig
     go_wp2_with fail
     refine qae (by kernel_rfl) (by kernel_rfl) ?_
     repeat (first | go_big_quiet_step ((go_at_call 132;exact Calls.ext_same (HGE.out _))) | quiet_step ((go_at_call 132;exact Calls.ext_same (HGE.out _))))
     refine wpQuiet_nil ?_
     intro w' hw'
     obtain ⟨⟨W,hbW⟩,hw''⟩:=hw'
     have hw3:w'=W:=hw''
     subst hw3
     have HH2:=hI (HH1.out.below hbW)
     have HB2:=hI (qac HB1.out hbW)
     obtain ⟨ev2,hE2⟩:=HH2.out
     obtain ⟨d0,_,_,_⟩:=hE2.cells
     clear hbW hw'' hE2
     have HD:=hI (fun (piece:ByteArray)=>qjz b q s piece r w' HH2.out HE.out hk2)
     go_wp2_with (go_at_call 92;(with_reducible refine (HD.out _).mono ?_);rintro e w' ⟨rfl,hP⟩;have HP:=hI hP;clear hP)
     go_ret
     rw [HNR.out]
     exact ⟨rfl,RPost.after HB2.out HP.out⟩
 ·have e0:(r.e == 0)=false:=by simp [he]
  rw [e0] at HG
  have HNR:Hid (numR s.data.toList most r=(r,0)):=qny he
  clear e0 he
  go_enter Tryz.func77,Tryz.ntmps77
  go_wp2_with (go_at_call 91;refine HG.out.mono ?_;rintro e w1 ⟨rfl,hb1⟩;have HB1:=hI hb1;clear hb1)
  go_ret
  rw [HNR.out]
  exact ⟨rfl,RPost.of_below H.out HB1.out⟩
set_option maxRecDepth 100000 in
set_option maxHeartbeats 4000000 in
theorem RText_any (b:Nat) (s:ByteArray) (r:RS) (most:Nat) (w:World) (h:Rdr b s r w) (hg:Glob w) (hs:s.size≤1000000) :
 Calls Tryz.prog 135 #[.pointer (some ⟨b,0,none⟩),.int .i64 most] w fun e w'=>e=.returned (.string ⟨(qds s.data.toList most r).2.toArray⟩)∧RPost b s (qds s.data.toList most r).1 w w':=by
 have HG:=hI (qkq b s r w h hg)
 have H:=hI h
 clear h hg
 by_cases he:r.e=0
 ·have e0:(r.e == 0)=true:=by simp [he]
  rw [e0] at HG
  have HE:=hI he
  have hp:=H.out.pos_le
  clear e0 he
  go_enter Tryz.func135,Tryz.ntmps135
  go_wp2_with fail
  refine HG.out.mono ?_
  rintro e w1 ⟨rfl,hb1⟩
  have h1:=H.out.below hb1
  have HH1:=hI h1
  have HB1:=hI hb1
  obtain ⟨ev,hE⟩:=h1
  obtain ⟨c0,c1,_,_⟩:=hE.cells
  have hlt:b < w1.heap.size:=qaa hE.2.1
  have q0:∀ p:ExtW w1,p.to.cell? ⟨b,0,none⟩=some (.string s):=fun p=>(p.h.cell (p:=⟨b,0,none⟩) hlt).trans c0
  have q1:∀ p:ExtW w1,p.to.cell? ⟨b,1,none⟩=some (.int .i64 (r.pos:Int)):=fun p=>(p.h.cell (p:=⟨b,1,none⟩) hlt).trans c1
  clear hE hb1 c0 c1
  have hsl:s.data.toList.length=s.size:=by simp
  cases hgl:getL (s.data.toList.drop r.pos) with
  | no c =>
    have HGE:=hI (fun W=>qwj s r.pos c W hp hs hgl)
    have hc:=qeu hgl
    have hc0:((c:Int) != 0)=true:=by simp;omega
    have hc1:c≠0:=by omega
    have HNR:=hI (quf (most:=most) HE.out hgl)
    have HC1:=hI hc1
    clear hgl hc hc1 hsl
    go_wp2_with fail
    refine qae (by kernel_rfl) (by kernel_rfl) ?_
    repeat (first | go_big_quiet_step ((go_at_call 132;exact Calls.ext_same (HGE.out _))) | quiet_step ((go_at_call 132;exact Calls.ext_same (HGE.out _))))
    refine wpQuiet_nil ?_
    intro w' hw'
    obtain ⟨⟨W,hbW⟩,hw''⟩:=hw'
    have hw3:w'=W:=hw''
    subst hw3
    have HH2:=hI (HH1.out.below hbW)
    have HB2:=hI (qac HB1.out hbW)
    obtain ⟨ev2,hE2⟩:=HH2.out
    obtain ⟨d0,_,_,_⟩:=hE2.cells
    clear hbW hw'' hE2
    have HD:=hI (fun (piece:ByteArray) (z:Int)=>qdk b c z s piece r w' HH2.out HC1.out)
    go_wp2_with (go_at_call 92;(with_reducible refine (HD.out _ _).mono ?_);rintro e w' ⟨rfl,hP⟩;have HP:=hI hP;clear hP)
    go_ret
    rw [HNR.out]
    exact ⟨rfl,RPost.after HB2.out HP.out⟩
  | ok n k =>
    have HGE:=hI (fun W=>qwi s r.pos n k W hp hs hgl)
    obtain ⟨-,-,hk,hn⟩:=qdi hgl
    have hk2:r.pos + k≤s.size:=by rw [List.length_drop] at hk;simp at hk;omega
    obtain ⟨q,hq⟩:∃ q,r.pos + k=q:=⟨_,rfl⟩
    rw [hq] at HGE hk2
    by_cases hbig:most < n
    ·have HNR:=hI (qpu HE.out hgl hbig)
     clear hgl hk hq hsl
     have hb3:(most:Int) < (n:Int):=by omega
     clear hn
     go_wp2_with fail
     refine qae (by kernel_rfl) (by kernel_rfl) ?_
     repeat (first | go_big_quiet_step ((go_at_call 132;exact Calls.ext_same (HGE.out _))) | quiet_step ((go_at_call 132;exact Calls.ext_same (HGE.out _))))
     refine wpQuiet_nil ?_
     intro w' hw'
     obtain ⟨⟨W,hbW⟩,hw''⟩:=hw'
     have hw3:w'=W:=hw''
     subst hw3
     have HH2:=hI (HH1.out.below hbW)
     have HB2:=hI (qac HB1.out hbW)
     obtain ⟨ev2,hE2⟩:=HH2.out
     obtain ⟨d0,_,_,_⟩:=hE2.cells
     clear hbW hw'' hE2
     have HD:Hid (∀ (piece:ByteArray) (z:Int),Calls Tryz.prog 92 #[.pointer (some ⟨b,0,none⟩),.string piece,.int .i64 z,.int .i64 3] w' fun e w''=>e=.returned (.bool false)∧RPost b s ⟨r.pos,3⟩ w' w''):=fun piece z=>qdk b 3 z s piece r w' HH2.out (by omega)
     go_wp2_with (go_at_call 92;(with_reducible refine (HD.out _ _).mono ?_);rintro e w' ⟨rfl,hP⟩;have HP:=hI hP;clear hP)
     go_ret
     rw [HNR.out]
     exact ⟨rfl,RPost.after HB2.out HP.out⟩
    ·have hb3:decide ((most:Int) < (n:Int))=false:=by simp;omega
     have hb4:decide (most < n)=false:=by simp;omega
     by_cases hsh:s.size - q < n
     ·have HNR:=hI (qky HE.out hgl hbig (by rw [hsl,hq];exact hsh))
      have hb5:decide ((s.size:Int) - (q:Int) < (n:Int))=true:=by simp;omega
      clear hgl hk hq hsl hbig hsh
      go_wp2_with fail
      refine qae (by kernel_rfl) (by kernel_rfl) ?_
      repeat (first | go_big_quiet_step ((go_at_call 132;exact Calls.ext_same (HGE.out _))) | quiet_step ((go_at_call 132;exact Calls.ext_same (HGE.out _))))
      refine wpQuiet_nil ?_
      intro w' hw'
      obtain ⟨⟨W,hbW⟩,hw''⟩:=hw'
      have hw3:w'=W:=hw''
      subst hw3
      have HH2:=hI (HH1.out.below hbW)
      have HB2:=hI (qac HB1.out hbW)
      obtain ⟨ev2,hE2⟩:=HH2.out
      obtain ⟨d0,_,_,_⟩:=hE2.cells
      clear hbW hw'' hE2
      have HD:Hid (∀ (piece:ByteArray) (z:Int),Calls Tryz.prog 92 #[.pointer (some ⟨b,0,none⟩),.string piece,.int .i64 z,.int .i64 4] w' fun e w''=>e=.returned (.bool false)∧RPost b s ⟨r.pos,4⟩ w' w''):=fun piece z=>qdk b 4 z s piece r w' HH2.out (by omega)
      go_wp2_with (go_at_call 92;(with_reducible refine (HD.out _ _).mono ?_);rintro e w' ⟨rfl,hP⟩;have HP:=hI hP;clear hP)
      go_ret
      rw [HNR.out]
      exact ⟨rfl,RPost.after HB2.out HP.out⟩
     ·have HNR:=hI (qpv HE.out hgl hbig (by rw [hsl,hq];exact hsh))
      rw [hq] at HNR
      have hb5:decide ((s.size:Int) - (q:Int) < (n:Int))=false:=by simp;omega
      have hqn:q + n≤s.size:=by omega
      have hz1:(q:Int) + (n:Int)≤(s.size:Int):=by omega
      clear hgl hk hq hsl hbig hsh
      go_wp2_with fail
      refine qae (by kernel_rfl) (by kernel_rfl) ?_
      repeat (first | go_big_quiet_step ((go_at_call 132;exact Calls.ext_same (HGE.out _))) | quiet_step ((go_at_call 132;exact Calls.ext_same (HGE.out _))))
      refine wpQuiet_nil ?_
      intro w' hw'
      obtain ⟨⟨W,hbW⟩,hw''⟩:=hw'
      have hw3:w'=W:=hw''
      subst hw3
      have HH2:=hI (HH1.out.below hbW)
      have HB2:=hI (qac HB1.out hbW)
      obtain ⟨ev2,hE2⟩:=HH2.out
      obtain ⟨d0,_,_,_⟩:=hE2.cells
      clear hbW hw'' hE2
      have HD:=hI (fun (piece:ByteArray)=>qjz b (q + n) s piece r w' HH2.out HE.out hqn)
      have HXS:Hid (s.extract q (q + n)=⟨((s.data.toList.drop q).take n).toArray⟩):=by
       have e1:s.extract q (q + n)=⟨((s.data.toList.drop q).take n).toArray⟩:=by
        apply ByteArray.ext
        apply Array.ext'
        rw [qgo]
        simp
       exact e1
      go_wp2_with (go_at_call 92;refine (HD.out _).mono ?_;rintro e w'' ⟨rfl,hP⟩;have HP:=hI hP;obtain ⟨ev3,hE3⟩:=hP.1;obtain ⟨d3,_,_,_⟩:=hE3.cells;clear hP hE3)
      go_ret
      rw [HNR.out]
      exact ⟨congrArg (fun x=>Ending.returned (.string x)) HXS.out,RPost.after HB2.out HP.out⟩
 ·have e0:(r.e == 0)=false:=by simp [he]
  rw [e0] at HG
  have HNR:Hid (qds s.data.toList most r=(r,[])):=qkz he
  clear e0 he
  go_enter Tryz.func135,Tryz.ntmps135
  go_wp2_with (go_at_call 91;refine HG.out.mono ?_;rintro e w1 ⟨rfl,hb1⟩;have HB1:=hI hb1;clear hb1)
  go_ret
  rw [HNR.out]
  exact ⟨rfl,RPost.of_below H.out HB1.out⟩
end Go.Proofs.YtnmojicfmcbgmaaGreatDoor
namespace Go.Proofs.YtnmojicfmcbgmaaGreatDoor
open Go.RowKit Nb
attribute [local go_sem ↓] Go.wp_at_zero Go.wp_at_succ
def RRowP (b:Nat) (s:ByteArray) (r:RS×List Nat) (w:World) (e:Ending) (w':World):Prop :=
 ∃ A cp,e=.returned (.slice A r.2.length cp)∧RdI w'.heap.size w' A (ints r.2)∧((A=none→cp=0)∧r.2.length≤cp)∧(∀ a,A=some a→w.heap.size≤a.block)∧RPost b s r.1 w w'
theorem RRowP.nil {b:Nat} {s:ByteArray} {r:RS} {w w':World} (h:RPost b s r w w'):RRowP b s (r,[]) w (.returned (.slice none 0 0)) w' :=
 ⟨none,0,rfl,RdI.none_,⟨fun _=>rfl,Nat.zero_le _⟩,(fun _ h=>by cases h),h⟩
set_option maxRecDepth 100000 in
set_option maxHeartbeats 4000000 in
theorem qjg (b:Nat) (s:ByteArray) (r:RS) (most:Nat) (w:World) (h:Rdr b s r w) (hg:Glob w) (hs:s.size≤1000000) (hm:most≤1000) :
 Calls Tryz.prog 87 #[.pointer (some ⟨b,0,none⟩),.int .i64 most] w fun e w'=>RRowP b s (rowR s.data.toList most r) w e w':=by
 have HG:=hI (qkq b s r w h hg)
 have H:=hI h
 clear h hg
 by_cases he:r.e=0
 ·have e0:(r.e == 0)=true:=by simp [he]
  rw [e0] at HG
  have HE:=hI he
  have hp:=H.out.pos_le
  clear e0 he
  go_enter Tryz.func87,Tryz.ntmps87
  go_wp2_with fail
  refine HG.out.mono ?_
  rintro e w1 ⟨rfl,hb1⟩
  have h1:=H.out.below hb1
  have HH1:=hI h1
  have HB1:=hI hb1
  obtain ⟨ev,hE⟩:=h1
  obtain ⟨c0,c1,_,_⟩:=hE.cells
  have hlt:b < w1.heap.size:=qaa hE.2.1
  have HU:=hI (fun W=>Unrow_any s r.pos most W hp hs hm)
  clear hb1
  cases hun:qdt (s.data.toList.drop r.pos) most with
  | no c =>
    have hc:=qnx hun
    have HNR:=hI (rowR_no HE.out hun)
    rw [hun] at HU
    have hc0:((c:Int) != 0)=true:=by simp;omega
    have hc1:c≠0:=by omega
    have HC1:=hI hc1
    have q0:∀ p:ExtW w1,p.to.cell? ⟨b,0,none⟩=some (.string s):=fun p=>(p.h.cell (p:=⟨b,0,none⟩) hlt).trans c0
    have q1:∀ p:ExtW w1,p.to.cell? ⟨b,1,none⟩=some (.int .i64 (r.pos:Int)):=fun p=>(p.h.cell (p:=⟨b,1,none⟩) hlt).trans c1
    have HGE:=hI (fun W=>(HU.out W).mono (fun e w' (h:UnR r.pos W (.no c) e w')=>(⟨h.2,h.1⟩:e=.returned (.tuple #[.slice none 0 0,.int .i64 0,.int .i64 (c:Int)])∧Below W.heap.size W w')))
    clear hun hc hc1 hE c0 c1
    go_wp2_with fail
    refine qae (by kernel_rfl) (by kernel_rfl) ?_
    repeat (first | go_big_quiet_step ((go_at_call 138;exact Calls.ext_of (HGE.out _))) | quiet_step ((go_at_call 138;exact Calls.ext_of (HGE.out _))))
    refine wpQuiet_nil ?_
    intro w' hw'
    obtain ⟨⟨W,hbW⟩,hw''⟩:=hw'
    have hw3:w'=W:=hw''
    subst hw3
    have HH2:=hI (HH1.out.below hbW)
    have HB2:=hI (qac HB1.out hbW)
    clear hbW hw''
    have HD:=hI (fun (piece:ByteArray) (z:Int)=>qdk b c z s piece r w' HH2.out HC1.out)
    go_wp2_with (go_at_call 92;(with_reducible refine (HD.out _ _).mono ?_);rintro e w' ⟨rfl,hP⟩;have HP:=hI hP;clear hP)
    go_ret
    rw [HNR.out]
    exact RRowP.nil (RPost.after HB2.out HP.out)
  | ok l k =>
    have hk:=(quh hun).1
    have hk2:r.pos + k≤s.size:=by rw [List.length_drop] at hk;simp at hk;omega
    have HNR:=hI (qug HE.out hun)
    rw [hun] at HU
    obtain ⟨q,hq⟩:∃ q,r.pos + k=q:=⟨_,rfl⟩
    have HGE:Hid (∀ W,Calls Tryz.prog 138 #[.string s,.int .i64 r.pos,.int .i64 most] W fun e w'=>Below W.heap.size W w'∧∃ A cp,e=.returned (.tuple #[.slice A l.length cp,.int .i64 (q:Int),.int .i64 0])∧RdI w'.heap.size w' A (ints l)∧((A=none→cp=0)∧l.length≤cp)∧(∀ a,A=some a→W.heap.size≤a.block)):=by
     intro W
     refine (HU.out W).mono ?_
     rintro e w' ⟨h1,A,cp,h2,h3,h4,h5⟩
     rw [hq] at h2
     exact ⟨h1,A,cp,h2,h3,h4,h5⟩
    rw [hq] at HNR hk2
    have z0:=c0
    have z1:=c1
    clear hun hk hq hE HU
    go_wp2_with fail
    go_region_held3 (fun w'=>w'.cell? ⟨b,0,none⟩=some (.string s)∧w'.cell? ⟨b,1,none⟩=some (.int .i64 (r.pos:Int))) (first | exact ⟨z0,z1⟩)
     ((go_at_call 138;refine (HGE.out _).mono ?_;rintro e w2 ⟨hb2,A,cp,rfl,hrd,hnil,hlo⟩;have z0:w2.cell? ⟨b,0,none⟩=some (.string s):=(hb2.cell (p:=⟨b,0,none⟩) hlt).trans c0;have z1:w2.cell? ⟨b,1,none⟩=some (.int .i64 (r.pos:Int)):=(hb2.cell (p:=⟨b,1,none⟩) hlt).trans c1))
    have hb3:Below w1.heap.size w1 w2:=((Below.refl _ _).drew).trans hb2
    have HH2:=hI (HH1.out.below hb3)
    have HB2:=hI (qac HB1.out hb3)
    have HRD:=hI hrd
    have HNI:=hI hnil
    have HLO:Hid (∀ a,A=some a→w1.heap.size≤a.block):=hlo
    have HSZ1:=hI HB1.out.size
    have HD:=hI (fun (piece:ByteArray)=>qjz b q s piece r w2 HH2.out HE.out hk2)
    clear hb3 hb2 hrd hnil hlo z0 z1 c0 c1
    go_wp2_with (go_at_call 92;(with_reducible refine (HD.out _).mono ?_);rintro e w3 ⟨rfl,hP⟩;have HP:=hI hP;clear hP)
    go_ret
    rw [HNR.out]
    exact ⟨A,cp,rfl,HRD.out.grown HP.out.2 (fun a ha=>by have:=HLO.out a ha;omega),HNI.out,(fun a ha=>Nat.le_trans HSZ1.out (HLO.out a ha)),RPost.after HB2.out HP.out⟩
 ·have e0:(r.e == 0)=false:=by simp [he]
  rw [e0] at HG
  have HNR:Hid (rowR s.data.toList most r=(r,[])):=qnz he
  clear e0 he
  go_enter Tryz.func87,Tryz.ntmps87
  go_wp2_with (go_at_call 91;refine HG.out.mono ?_;rintro e w1 ⟨rfl,hb1⟩;have HB1:=hI hb1;clear hb1)
  go_ret
  rw [HNR.out]
  exact RRowP.nil (RPost.of_below H.out HB1.out)
set_option maxRecDepth 100000 in
set_option maxHeartbeats 4000000 in
theorem REnd_any (b:Nat) (s:ByteArray) (r:RS) (w:World) (h:Rdr b s r w) (hg:Glob w) :
 Calls Tryz.prog 40 #[.pointer (some ⟨b,0,none⟩)] w fun e w'=>e=.returned (.tuple #[])∧RPost b s (endR s.data.toList r) w w':=by
 have HG:=hI (fun p:ExtW w=>qkq b s r p.to (h.below p.h) (hg.below p.h))
 have H:=hI h
 obtain ⟨ev,hE⟩:=h
 obtain ⟨c0,c1,_,_⟩:=hE.cells
 have hlt:b < w.heap.size:=qaa hE.2.1
 have q0:∀ p:ExtW w,p.to.cell? ⟨b,0,none⟩=some (.string s):=fun p=>(p.h.cell (p:=⟨b,0,none⟩) hlt).trans c0
 have q1:∀ p:ExtW w,p.to.cell? ⟨b,1,none⟩=some (.int .i64 (r.pos:Int)):=fun p=>(p.h.cell (p:=⟨b,1,none⟩) hlt).trans c1
 have hsl:s.data.toList.length=s.size:=by simp
 clear hg hE c0 c1
 by_cases he:r.e=0
 ·have e0:(r.e == 0)=true:=by simp [he]
  rw [e0] at HG
  by_cases hps:r.pos < s.size
  ·have hz:decide ((r.pos:Int) < (s.size:Int))=true:=by simp;omega
   have HNR:Hid (endR s.data.toList r=⟨r.pos,6⟩):=by show _=_;unfold endR;rw [hsl,if_pos ⟨he,hps⟩]
   clear e0 he hsl
   go_enter Tryz.func40,Tryz.ntmps40
   go_wp2_with fail
   refine qae (by kernel_rfl) (by kernel_rfl) ?_
   repeat (first | go_big_quiet_step ((go_at_call 91;exact Calls.ext_of (HG.out _))) | quiet_step ((go_at_call 91;exact Calls.ext_of (HG.out _))))
   refine wpQuiet_nil ?_
   intro w' hw'
   obtain ⟨⟨W,hbW⟩,hw''⟩:=hw'
   have hw3:w'=W:=hw''
   subst hw3
   have HH2:=hI (H.out.below hbW)
   have HB2:=hI hbW
   clear hbW hw''
   have HD:Hid (∀ (piece:ByteArray) (z:Int),Calls Tryz.prog 92 #[.pointer (some ⟨b,0,none⟩),.string piece,.int .i64 z,.int .i64 6] w' fun e w''=>e=.returned (.bool false)∧RPost b s ⟨r.pos,6⟩ w' w''):=fun piece z=>qdk b 6 z s piece r w' HH2.out (by omega)
   go_wp2_with (go_at_call 92;(with_reducible refine (HD.out _ _).mono ?_);rintro e w' ⟨rfl,hP⟩;have HP:=hI hP;clear hP)
   go_end0
   rw [HNR.out]
   exact ⟨rfl,RPost.after HB2.out HP.out⟩
  ·have hz:decide ((r.pos:Int) < (s.size:Int))=false:=by simp;omega
   have hz2:decide (r.pos < s.size)=false:=by simp;omega
   have HNR:Hid (endR s.data.toList r=r):=by show _=_;unfold endR;rw [hsl,if_neg (fun h=>hps h.2)]
   clear e0 he hsl hps
   go_enter Tryz.func40,Tryz.ntmps40
   go_wp2_with fail
   refine qae (by kernel_rfl) (by kernel_rfl) ?_
   repeat (first | go_big_quiet_step ((go_at_call 91;exact Calls.ext_of (HG.out _))) | quiet_step ((go_at_call 91;exact Calls.ext_of (HG.out _))))
   refine wpQuiet_nil ?_
   intro w' hw'
   obtain ⟨⟨W,hbW⟩,hw''⟩:=hw'
   have hw3:w'=W:=hw''
   subst hw3
   have HB2:=hI hbW
   clear hbW hw''
   go_wp2
   go_end0
   rw [HNR.out]
   exact ⟨rfl,RPost.of_below H.out HB2.out⟩
 ·have e0:(r.e == 0)=false:=by simp [he]
  rw [e0] at HG
  have HNR:Hid (endR s.data.toList r=r):=by show _=_;unfold endR;rw [if_neg (fun h=>he h.1)]
  clear e0 he hsl
  go_enter Tryz.func40,Tryz.ntmps40
  go_wp2_with fail
  refine qae (by kernel_rfl) (by kernel_rfl) ?_
  repeat (first | go_big_quiet_step ((go_at_call 91;exact Calls.ext_of (HG.out _))) | quiet_step ((go_at_call 91;exact Calls.ext_of (HG.out _))))
  refine wpQuiet_nil ?_
  intro w' hw'
  obtain ⟨⟨W,hbW⟩,hw''⟩:=hw'
  have hw3:w'=W:=hw''
  subst hw3
  have HB2:=hI hbW
  clear hbW hw''
  go_wp2
  go_end0
  rw [HNR.out]
  exact ⟨rfl,RPost.of_below H.out HB2.out⟩
def FaultV (w:World) (c:Nat) (ev:Value):Prop:=(c=0∧ev=.nilIface)∨(c≠0∧∃ op ops,ops.length≤5∧Chain w (op :: ops) (c:Int) ev)
theorem qfn (b:Nat) (s:ByteArray) (r:RS) (w:World) (h:Rdr b s r w) :
 Calls Tryz.prog 41 #[.pointer (some ⟨b,0,none⟩)] w fun e w'=>∃ ev,e=.returned ev∧FaultV w r.e ev∧w=w':=by
 obtain ⟨ev,hE⟩:=h
 obtain ⟨c0,c1,c2,c3⟩:=hE.cells
 have HF:Hid (FaultV w r.e ev):=hE.2.2
 clear hE
 go_enter Tryz.func41,Tryz.ntmps41
 go_wp2
 go_ret
 exact ⟨_,rfl,HF.out,rfl⟩
end Go.Proofs.YtnmojicfmcbgmaaGreatDoor
namespace Go.Proofs.YtnmojicfmcbgmaaGreatDoor
open Go.RowKit Go.Sort Go.Lib Nb
structure Gr2 (b B:Nat) (w w':World):Prop where
 os:w'.os=w.os
 tape:w'.tape=w.tape
 output:w'.output=w.output
 size:w.heap.size≤w'.heap.size
 block:∀ i,i < w.heap.size→i≠b→i≠B→w'.heap[i]?=w.heap[i]?
section
variable {b B:Nat} {w a c:World}
theorem Gr2.refl (b B:Nat) (w:World):Gr2 b B w w:=⟨rfl,rfl,rfl,Nat.le_refl _,fun _ _ _ _=>rfl⟩
theorem Gr2.trans (h:Gr2 b B w a) (k:Gr2 b B a c):Gr2 b B w c :=
 ⟨k.os.trans h.os,k.tape.trans h.tape,k.output.trans h.output,Nat.le_trans h.size k.size,fun i hi h1 h2=>(k.block i (Nat.lt_of_lt_of_le hi h.size) h1 h2).trans (h.block i hi h1 h2)⟩
theorem Gr2.of_below (h:Below w.heap.size w a):Gr2 b B w a:=⟨h.os,h.tape,h.output,h.size,fun i hi _ _=>h.block i hi⟩
theorem Gr2.below (h:Gr2 b B w a) (k:Below a.heap.size a c):Gr2 b B w c:=h.trans (Gr2.of_below k)
theorem Gr2.of_grown (h:w.grownBy a (some b)):Gr2 b B w a:=⟨h.os,h.tape,h.output,h.size,fun i hi h1 _=>h.block i hi (by intro e;injection e with e;exact h1 e)⟩
theorem Gr2.grown (h:Gr2 b B w a) (k:a.grownBy c (some b)):Gr2 b B w c:=h.trans (Gr2.of_grown k)
theorem Gr2.own {row:Option Nat} (h:Gr2 b B w a) (k:a.grownBy c row) (hr:∀ g,row=some g→w.heap.size≤g):Gr2 b B w c :=
 ⟨k.os.trans h.os,k.tape.trans h.tape,k.output.trans h.output,Nat.le_trans h.size k.size,fun i hi h1 h2=>(k.block i (Nat.lt_of_lt_of_le hi h.size) (by intro e;have:=hr i e.symm;omega)).trans (h.block i hi h1 h2)⟩
theorem Gr2.set (h:Gr2 b B w a) {g:Nat} (hg:g=B∨g=b∨w.heap.size≤g) (j:Nat) (u:Value):Gr2 b B w (a.setCell ⟨g,j,none⟩ u):=by
 have k:=qal (World.grownBy.refl a (some g)) (p:=⟨g,j,none⟩) rfl u
 refine ⟨k.os.trans h.os,k.tape.trans h.tape,k.output.trans h.output,Nat.le_trans h.size k.size,fun i hi h1 h2=>(k.block i (Nat.lt_of_lt_of_le hi h.size) (by intro e;injection e with e;omega)).trans (h.block i hi h1 h2)⟩
theorem Gr2.cell (h:Gr2 b B w a) {p:Addr} {v:Value} (hb:p.block≠b) (hB:p.block≠B) (hc:w.cell? p=some v):a.cell? p=some v :=
 (World.cell?_of_block (h.block _ (qap hc) hb hB)).trans hc
theorem Gr2.to_below (h:Gr2 b B w a) {n:Nat} (hb:n≤b) (hB:n≤B) (hn:n≤w.heap.size):Below n w a:=⟨h.os,h.tape,h.output,h.size,fun i hi=>h.block i (by omega) (by omega) (by omega)⟩
theorem Gr2.heap (h:Gr2 b B w a) {g:Nat} {o:Obj} (hg:w.heap[g]?=some o) (h1:g≠b) (h2:g≠B):a.heap[g]?=some o:=(h.block g (qaa hg) h1 h2).trans hg
theorem qdl {base:Nat} {e:TypeId} {k n:Nat} {v:Value} {xs:List Value} (h:w.ownsRow base e k v n xs) (hg:Gr2 b B w a) (hb:b < base) (hB:B < base):a.ownsRow base e k v n xs:=by
 refine ⟨h.1,?_⟩
 rcases h.2 with hn | ⟨g,cap,cur,rfl,hbg,hgg,rest⟩
 ·exact .inl hn
 ·exact .inr ⟨g,cap,cur,rfl,hbg,hg.heap hgg (by omega) (by omega),rest⟩
end
def Fr (n:Nat) (A:Option Addr):Prop:=∀ x,A=some x→n≤x.block
theorem Fr.none_ (n:Nat):Fr n none:=fun _ h=>by cases h
theorem Fr.mono {n m:Nat} {A:Option Addr} (h:Fr m A) (hn:n≤m):Fr n A:=fun x hx=>Nat.le_trans hn (h x hx)
theorem RdK.gr2 {α:Type} [Inhabited α] {enc:α→List Value} {k:Nat} {w w':World} {A:Option Addr} {d:Array α} {b B n:Nat} (h:RdK enc k w.heap.size w A d) (hg:Gr2 b B w w') (hA:Fr n A) (hb:b < n) (hB:B < n):RdK enc k w'.heap.size w' A d:=fun h0=>by
 obtain ⟨g,off,e,hlt,hc⟩:=h h0
 have:=hA _ e
 exact ⟨g,off,e,Nat.lt_of_lt_of_le hlt hg.size,fun t ht=>hg.cell (p:=⟨g,off + t,none⟩) (by show g≠b;simp only at this;omega) (by show g≠B;simp only at this;omega) (hc t ht)⟩
theorem RdI.gr2 {w w':World} {A:Option Addr} {d:Array Int} {b B n:Nat} (h:RdI w.heap.size w A d) (hg:Gr2 b B w w') (hA:Fr n A) (hb:b < n) (hB:B < n):RdI w'.heap.size w' A d:=fun h0=>by
 obtain ⟨g,off,e,hlt,hc⟩:=h h0
 have:=hA _ e
 exact ⟨g,off,e,Nat.lt_of_lt_of_le hlt hg.size,fun t ht=>hg.cell (p:=⟨g,off + t,none⟩) (by show g≠b;simp only at this;omega) (by show g≠B;simp only at this;omega) (hc t ht)⟩
theorem Chain.apart {w w':World} {g:Nat} {cs:Array Value} {e:TypeId} {f:Nat×Nat} (hb:w.heap[g]?=some (.cells cs e f)) (he:e≠126) (hg:∀ i,i < w.heap.size→i≠g→w'.heap[i]?=w.heap[i]?) :
 ∀ {ops:List ByteArray} {c:Int} {v:Value},Chain w ops c v→Chain w' ops c v
 | [],_,_,h=>h
 | _ :: _,_,_,⟨b',o,u,h1,h2,h3,h4,c5,f5,h5⟩=>by
   have hne:b'≠g:=by
    rintro rfl
    rw [hb] at h5
    injection h5 with h5
    injection h5 with _ h5
    exact he h5
   have hl:b' < w.heap.size:=qaa h5
   have k:∀ x,w'.cell? ⟨b',x,none⟩=w.cell? ⟨b',x,none⟩:=fun x=>World.cell?_of_block (a:=⟨b',x,none⟩) (hg b' hl hne)
   exact ⟨b',o,u,h1,(k o).trans h2,(k (o + 1)).trans h3,Chain.apart hb he hg h4,c5,f5,(hg b' hl hne).trans h5⟩
theorem Rdr.apart {b:Nat} {s:ByteArray} {r:RS} {w w':World} {g:Nat} {cs:Array Value} {e:TypeId} {f:Nat×Nat} (h:Rdr b s r w) (hb:w.heap[g]?=some (.cells cs e f)) (he:e≠126) (hne:g≠b) (hg:∀ i,i < w.heap.size→i≠g→w'.heap[i]?=w.heap[i]?):Rdr b s r w':=by
 obtain ⟨ev,h1,h2,h3⟩:=h
 refine ⟨ev,h1,(hg b (qaa h2) (by omega)).trans h2,?_⟩
 rcases h3 with h3 | ⟨h3,op,ops,hl,h4⟩
 ·exact Or.inl h3
 ·exact Or.inr ⟨h3,op,ops,hl,h4.apart hb he hg⟩
theorem Rdr.ne_glob {b:Nat} {s:ByteArray} {r:RS} {w:World} (h:Rdr b s r w) (hg:Glob w):b≠0:=by
 rintro rfl
 obtain ⟨ev,hE⟩:=h
 obtain ⟨c0,_⟩:=hE.cells
 unfold Glob at hg
 rw [hg] at c0
 cases c0
structure IRd (n b B:Nat) (s:ByteArray) (st:IS) (w:World):Prop where
 bx:w.heap[B]?=some (.cells #[.pointer (some ⟨b,0,none⟩),.bool st.odd] 92 (0,0))
 rd:Rdr b s st.r w
 gl:Glob w
 hb:b < n
 hB:B < n
 hn:n≤w.heap.size
theorem reader_ne:(92 : TypeId)≠126:=by decide
section
variable {n b B:Nat} {s:ByteArray} {st:IS} {w w':World}
theorem IRd.ne (h:IRd n b B s st w):B≠b:=by
 rintro rfl
 obtain ⟨ev,hE⟩:=h.rd
 have:=hE.2.1
 rw [h.bx] at this
 injection this with this
 injection this with this
 have:=congrArg Array.size this
 simp at this
theorem IRd.c0 (h:IRd n b B s st w):w.cell? ⟨B,0,none⟩=some (.pointer (some ⟨b,0,none⟩)):=by rw [qab h.bx];rfl
theorem IRd.c1 (h:IRd n b B s st w):w.cell? ⟨B,1,none⟩=some (.bool st.odd):=by rw [qab h.bx];rfl
theorem IRd.neG (h:IRd n b B s st w):B≠0:=by
 rintro rfl
 have:=h.c0
 have hg:=h.gl
 unfold Glob at hg
 rw [hg] at this
 cases this
theorem IRd.below (h:IRd n b B s st w) (hb:Below w.heap.size w w'):IRd n b B s st w' :=
 ⟨(hb.block B (qaa h.bx)).trans h.bx,h.rd.below hb,h.gl.below hb,h.hb,h.hB,Nat.le_trans h.hn hb.size⟩
theorem IRd.rpost {r':RS} (h:IRd n b B s st w) (hP:RPost b s r' w w'):IRd n b B s ⟨r',st.odd⟩ w' :=
 ⟨(hP.2.block B (qaa h.bx) (by intro e;injection e with e;exact h.ne e)).trans h.bx,hP.1,hP.2.cell h.gl (by intro e;injection e with e;exact h.rd.ne_glob h.gl e.symm),h.hb,h.hB,Nat.le_trans h.hn hP.2.size⟩
theorem IRd.apart {g:Nat} {cs:Array Value} {e:TypeId} {f:Nat×Nat} (h:IRd n b B s st w) (hb:w.heap[g]?=some (.cells cs e f)) (he:e≠126) (hg:n≤g) (hge:0 < n) (hk:w.grownBy w' (some g)):IRd n b B s st w':=by
 have k:∀ i,i < w.heap.size→i≠g→w'.heap[i]?=w.heap[i]?:=fun i hi hne=>hk.block i hi (by intro e;injection e with e;exact hne e)
 have h1:=h.hb
 have h2:=h.hB
 exact ⟨(k B (qaa h.bx) (by omega)).trans h.bx,h.rd.apart hb he (by omega) k,hk.cell h.gl (by intro e;injection e with e;simp only at e;omega),h.hb,h.hB,Nat.le_trans h.hn hk.size⟩
theorem IRd.owned {base:Nat} {e:TypeId} {k m:Nat} {v:Value} {xs:List Value} (h:IRd n b B s st w) (ho:w.ownsRow base e k v m xs) (he:e≠126) (hg:n≤base) (hge:0 < n) (hk:w.grownBy w' v.ownBlock):IRd n b B s st w':=by
 rcases ho.2 with ⟨rfl,_⟩ | ⟨g,cap,cur,rfl,hbg,hgg,_⟩
 ·exact h.below ⟨hk.os,hk.tape,hk.output,hk.size,fun i hi=>hk.block i hi (by intro e;cases e)⟩
 ·exact h.apart hgg he (by omega) hge hk
theorem IRd.odds (h:IRd n b B s st w) (o:Bool):IRd n b B s ⟨st.r,o⟩ (w.setCell ⟨B,1,none⟩ (.bool o)):=by
 have k:∀ i,i < w.heap.size→i≠B→(w.setCell ⟨B,1,none⟩ (.bool o)).heap[i]?=w.heap[i]?:=fun i _ hne=>Below.heap_setCell w ⟨B,1,none⟩ _ i hne
 refine ⟨?_,h.rd.apart h.bx reader_ne h.ne k,?_,h.hb,h.hB,Nat.le_trans h.hn (by simp)⟩
 ·rw [qaj h.bx];rfl
 ·exact (World.cell?_of_block (a:=⟨0,0,none⟩) (k _ (qap h.gl) (by intro e;exact h.neG e.symm))).trans h.gl
theorem IRd.gr_odd (_:IRd n b B s st w) (o:Bool):Gr2 b B w (w.setCell ⟨B,1,none⟩ (.bool o)):=(Gr2.refl b B w).set (Or.inl rfl) 1 _
theorem RPost.gr2 {r':RS} (hP:RPost b s r' w w'):Gr2 b B w w':=Gr2.of_grown hP.2
end
def IPost (n b B:Nat) (s:ByteArray) (st':IS) (w w':World):Prop:=IRd n b B s st' w'∧Gr2 b B w w'
set_option maxRecDepth 100000
theorem inum_any (n b B:Nat) (s:ByteArray) (st:IS) (w:World) (h:IRd n b B s st w) (hs:s.size≤1000000) :
 Calls Tryz.prog 76 #[.pointer (some ⟨B,0,none⟩)] w fun e w'=>e=.returned (.int .i64 ((nC.rd s.data.toList st).2:Int))∧IPost n b B s (nC.rd s.data.toList st).1 w w':=by
 have HN:Hid (Calls Tryz.prog 77 #[.pointer (some ⟨b,0,none⟩),.int .i64 1000000] w fun e w'=>e=.returned (.int .i64 ((nC.rd s.data.toList st).2:Int))∧RPost b s (nC.rd s.data.toList st).1.r w w'):=qvy b s st.r 1000000 w h.rd h.gl hs
 have H:=hI h
 have c0:=h.c0
 clear h
 go_enter Tryz.func76,Tryz.ntmps76
 go_wp2_with (go_at_call 77;refine HN.out.mono ?_;rintro e w' ⟨rfl,hP⟩;have HP:=hI hP;clear hP)
 go_ret
 exact ⟨rfl,H.out.rpost HP.out,HP.out.gr2⟩
end Go.Proofs.YtnmojicfmcbgmaaGreatDoor
namespace Go.Proofs.YtnmojicfmcbgmaaGreatDoor
open Go.RowKit Nb
def inV (s:ByteArray) (r:RS) (pc:ByteArray):Value:=.agg #[.string s,.int .i64 (r.pos:Int),.string pc,.int .i64 (r.e:Int)]
theorem bcell {W w1:World} (hb:Below W.heap.size W w1):(∀ b o,b < W.heap.size→w1.cell? ⟨b,o,none⟩=W.cell? ⟨b,o,none⟩)∧(∀ b o,b < W.heap.size→w1.frozen? ⟨b,o,none⟩=W.frozen? ⟨b,o,none⟩) :=
 ⟨fun b o h=>hb.cell (p:=⟨b,o,none⟩) h,fun b o h=>hb.frozen (p:=⟨b,o,none⟩) h⟩
theorem qdp (s pc piece:ByteArray) (p e0 to e:Int) (w:World) (he:e≠0) :
 Calls Tryz.prog 97 #[.agg #[.string s,.int .i64 p,.string pc,.int .i64 e0],.string piece,.int .i64 to,.int .i64 e] w fun ev w'=>ev=.returned (.agg #[.string s,.int .i64 p,.string piece,.int .i64 e]) ∧
  w'=(w.alloc (.cells #[.string s,.int .i64 p,.string piece,.int .i64 e] 96)).alloc (.cells #[.string s,.int .i64 p,.string piece,.int .i64 e] 96):=by
 have he0:(e != 0)=true:=by simpa using he
 clear he
 go_enter Tryz.func97,Tryz.ntmps97
 go_wp2
 exact bodyPost_ret (v:=.agg #[.string s,.int .i64 p,.string piece,.int .i64 e]) (by simp [results,Tryz.results97,go_sem]) rfl ⟨rfl,rfl⟩
theorem qie (s pc piece:ByteArray) (p e0 to:Int) (w:World) :
 Calls Tryz.prog 97 #[.agg #[.string s,.int .i64 p,.string pc,.int .i64 e0],.string piece,.int .i64 to,.int .i64 0] w fun ev w'=>ev=.returned (.agg #[.string s,.int .i64 to,.string pc,.int .i64 e0]) ∧
  w'=(w.alloc (.cells #[.string s,.int .i64 to,.string pc,.int .i64 e0] 96)).alloc (.cells #[.string s,.int .i64 to,.string pc,.int .i64 e0] 96):=by
 go_enter Tryz.func97,Tryz.ntmps97
 go_wp2
 exact bodyPost_ret (v:=.agg #[.string s,.int .i64 to,.string pc,.int .i64 e0]) (by simp [results,Tryz.results97,go_sem]) rfl ⟨rfl,rfl⟩
def InP (s:ByteArray) (r:RS×Nat) (w:World) (e:Ending) (w':World):Prop:=Below w.heap.size w w'∧∃ pc,e=.returned (.tuple #[inV s r.1 pc,.int .i64 (r.2:Int)])
set_option maxRecDepth 100000 in
set_option maxHeartbeats 1000000 in
theorem rNum_any (s pc:ByteArray) (r:RS) (most:Nat) (w:World) (hp:r.pos≤s.size) (hs:s.size≤1000000) :
 Calls Tryz.prog 93 #[inV s r pc,.int .i64 most] w fun e w'=>InP s (numR s.data.toList most r) w e w':=by
 unfold inV
 by_cases he:r.e=0
 ·have e0:(r.e:Int)=0:=by omega
  rw [e0]
  cases hgl:getL (s.data.toList.drop r.pos) with
  | no c =>
    have HGE:=hI (fun W=>qpi s r.pos c W hp hs hgl)
    have hc:=qeu hgl
    have hc0:((c:Int) == 0)=false:=by simp;omega
    have hc1:((c:Int) != 0)=true:=by simp;omega
    have HC1:Hid ((c:Int)≠0):=by show _≠_;omega
    have HNR:=hI (numR_no (most:=most) he hgl)
    clear hgl hc he e0
    go_enter Tryz.func93,Tryz.ntmps93
    go_wp2_with (first | (go_at_call 143;refine (HGE.out _).mono ?_;rintro e w' ⟨rfl,rfl⟩) | (go_at_call 97;refine (qdp _ _ _ _ _ _ _ _ HC1.out).mono ?_;rintro e w' ⟨rfl,rfl⟩))
    rw [HNR.out]
    refine bodyPost_ret (v:=.tuple #[inV s ⟨r.pos,c⟩ ⟨#[110,117,109]⟩,.int .i64 0]) (by simp [results,Tryz.results93,go_sem,inV]) rfl ⟨?_,_,rfl⟩
    exact qad (qad (qad (bel1 w _) _) _) _
  | ok n k =>
    have HGE:=hI (fun W=>qph s r.pos n k W hp hs hgl)
    by_cases hbig:most < n
    ·have HNR:=hI (qud he hgl hbig)
     have HM:Hid (∀ (s pc piece:ByteArray) (p e0 to:Int) (W:World),Calls Tryz.prog 97 #[.agg #[.string s,.int .i64 p,.string pc,.int .i64 e0],.string piece,.int .i64 to,.int .i64 3] W fun ev w'=>ev=.returned (.agg #[.string s,.int .i64 p,.string piece,.int .i64 3])∧w'=(W.alloc (.cells #[.string s,.int .i64 p,.string piece,.int .i64 3] 96)).alloc (.cells #[.string s,.int .i64 p,.string piece,.int .i64 3] 96)):=fun s pc piece p e0 to W=>qdp s pc piece p e0 to 3 W (by omega)
     clear hgl he e0
     go_enter Tryz.func93,Tryz.ntmps93
     go_wp2_with (first | (go_at_call 143;refine (HGE.out _).mono ?_;rintro e w' ⟨rfl,rfl⟩) | (go_at_call 97;refine (HM.out _ _ _ _ _ _ _).mono ?_;rintro e w' ⟨rfl,rfl⟩))
     rw [HNR.out]
     refine bodyPost_ret (v:=.tuple #[inV s ⟨r.pos,3⟩ ⟨#[110,117,109]⟩,.int .i64 0]) (by simp [results,Tryz.results93,go_sem,inV]) rfl ⟨?_,_,rfl⟩
     exact qad (qad (qad (bel1 w _) _) _) _
    ·have HNR:=hI (que he hgl hbig)
     have hb4:decide (most < n)=false:=by simp;omega
     clear hgl he e0 hbig
     go_enter Tryz.func93,Tryz.ntmps93
     go_wp2_with (first | (go_at_call 143;refine (HGE.out _).mono ?_;rintro e w' ⟨rfl,rfl⟩) | (go_at_call 97;refine (qie _ _ _ _ _ _ _).mono ?_;rintro e w' ⟨rfl,rfl⟩))
     rw [HNR.out]
     refine bodyPost_ret (v:=.tuple #[inV s ⟨r.pos + k,0⟩ pc,.int .i64 n]) (by simp [results,Tryz.results93,go_sem,inV]) rfl ⟨?_,_,rfl⟩
     exact qad (qad (qad (bel1 w _) _) _) _
 ·have HNR:Hid (numR s.data.toList most r=(r,0)):=qny he
  have e0:((r.e:Int) != 0)=true:=by simpa using he
  clear he
  go_enter Tryz.func93,Tryz.ntmps93
  go_wp2
  rw [HNR.out]
  refine bodyPost_ret (v:=.tuple #[inV s r pc,.int .i64 0]) (by simp [results,Tryz.results93,go_sem,inV]) rfl ⟨?_,_,rfl⟩
  exact qad (bel1 w _) _
end Go.Proofs.YtnmojicfmcbgmaaGreatDoor
namespace Go.Proofs.YtnmojicfmcbgmaaGreatDoor
open Go.RowKit Nb
attribute [local go_sem ↓] Go.wp_at_zero Go.wp_at_succ
theorem qcu (w:World) (g i j:Nat) (u:Value) (h:i≠j):(w.setCell ⟨g,j,none⟩ u).cell? ⟨g,i,none⟩=w.cell? ⟨g,i,none⟩:=World.cell?_setCell_other _ _ _ _ (by intro e;injection e with _ e;exact h e.symm)
theorem four_set (w1:World) (g:Nat) (a b c d a' b' c' d':Value) (d0:w1.cell? ⟨g,0,none⟩=some a') (d1:w1.cell? ⟨g,1,none⟩=some b') (d2:w1.cell? ⟨g,2,none⟩=some c') (d3:w1.cell? ⟨g,3,none⟩=some d') :
 ((((w1.setCell ⟨g,0,none⟩ a).setCell ⟨g,1,none⟩ b).setCell ⟨g,2,none⟩ c).setCell ⟨g,3,none⟩ d).cell? ⟨g,0,none⟩=some a ∧
 ((((w1.setCell ⟨g,0,none⟩ a).setCell ⟨g,1,none⟩ b).setCell ⟨g,2,none⟩ c).setCell ⟨g,3,none⟩ d).cell? ⟨g,1,none⟩=some b ∧
 ((((w1.setCell ⟨g,0,none⟩ a).setCell ⟨g,1,none⟩ b).setCell ⟨g,2,none⟩ c).setCell ⟨g,3,none⟩ d).cell? ⟨g,2,none⟩=some c ∧
 ((((w1.setCell ⟨g,0,none⟩ a).setCell ⟨g,1,none⟩ b).setCell ⟨g,2,none⟩ c).setCell ⟨g,3,none⟩ d).cell? ⟨g,3,none⟩=some d:=by
 refine ⟨?_,?_,?_,?_⟩
 ·rw [qcu _ _ _ _ _ (by omega),qcu _ _ _ _ _ (by omega),qcu _ _ _ _ _ (by omega)]
  exact World.cell?_setCell_same _ _ _ d0
 ·rw [qcu _ _ _ _ _ (by omega),qcu _ _ _ _ _ (by omega)]
  exact World.cell?_setCell_same (u:=b') _ _ _ (by rw [qcu _ _ _ _ _ (by omega)];exact d1)
 ·rw [qcu _ _ _ _ _ (by omega)]
  exact World.cell?_setCell_same (u:=c') _ _ _ (by rw [qcu _ _ _ _ _ (by omega),qcu _ _ _ _ _ (by omega)];exact d2)
 ·exact World.cell?_setCell_same (u:=d') _ _ _ (by rw [qcu _ _ _ _ _ (by omega),qcu _ _ _ _ _ (by omega),qcu _ _ _ _ _ (by omega)];exact d3)
theorem qri (w1:World) (g:Nat) (a b c d a' b' c' d':Value) (d0:w1.cell? ⟨g,0,none⟩=some a') (d1:w1.cell? ⟨g,1,none⟩=some b') (d2:w1.cell? ⟨g,2,none⟩=some c') (d3:w1.cell? ⟨g,3,none⟩=some d') (o1 o2:Obj) :
 ((((((w1.setCell ⟨g,0,none⟩ a).setCell ⟨g,1,none⟩ b).setCell ⟨g,2,none⟩ c).setCell ⟨g,3,none⟩ d).alloc o1).alloc o2).cell? ⟨g,0,none⟩=some a ∧
 ((((((w1.setCell ⟨g,0,none⟩ a).setCell ⟨g,1,none⟩ b).setCell ⟨g,2,none⟩ c).setCell ⟨g,3,none⟩ d).alloc o1).alloc o2).cell? ⟨g,1,none⟩=some b ∧
 ((((((w1.setCell ⟨g,0,none⟩ a).setCell ⟨g,1,none⟩ b).setCell ⟨g,2,none⟩ c).setCell ⟨g,3,none⟩ d).alloc o1).alloc o2).cell? ⟨g,2,none⟩=some c ∧
 ((((((w1.setCell ⟨g,0,none⟩ a).setCell ⟨g,1,none⟩ b).setCell ⟨g,2,none⟩ c).setCell ⟨g,3,none⟩ d).alloc o1).alloc o2).cell? ⟨g,3,none⟩=some d:=by
 obtain ⟨k0,k1,k2,k3⟩:=four_set w1 g a b c d a' b' c' d' d0 d1 d2 d3
 have hl:=qap k0
 have e:∀ i,((((((w1.setCell ⟨g,0,none⟩ a).setCell ⟨g,1,none⟩ b).setCell ⟨g,2,none⟩ c).setCell ⟨g,3,none⟩ d).alloc o1).alloc o2).cell? ⟨g,i,none⟩=((((w1.setCell ⟨g,0,none⟩ a).setCell ⟨g,1,none⟩ b).setCell ⟨g,2,none⟩ c).setCell ⟨g,3,none⟩ d).cell? ⟨g,i,none⟩:=fun i=>by
  rw [World.cell?_alloc_lt _ _ ⟨g,i,none⟩ (by simp at hl ⊢;omega),World.cell?_alloc_lt _ _ ⟨g,i,none⟩ hl]
 exact ⟨(e 0).trans k0,(e 1).trans k1,(e 2).trans k2,(e 3).trans k3⟩
def InT (s:ByteArray) (r:RS×List UInt8) (w:World) (e:Ending) (w':World):Prop:=Below w.heap.size w w'∧∃ pc,e=.returned (.tuple #[inV s r.1 pc,.string ⟨r.2.toArray⟩])
def InE (s:ByteArray) (r:RS) (w:World) (e:Ending) (w':World):Prop:=Below w.heap.size w w'∧∃ pc,e=.returned (inV s r pc)
def InR (s:ByteArray) (r:RS×List Nat) (w:World) (e:Ending) (w':World):Prop:=Below w.heap.size w w'∧∃ pc A cp,e=.returned (.tuple #[inV s r.1 pc,.slice A r.2.length cp])∧RdI w'.heap.size w' A (ints r.2)∧((A=none→cp=0)∧r.2.length≤cp)∧(∀ a,A=some a→w.heap.size≤a.block)
set_option maxRecDepth 100000 in
set_option maxHeartbeats 2000000 in
theorem rText_any (s pc:ByteArray) (r:RS) (most:Nat) (w:World) (hp:r.pos≤s.size) (hs:s.size≤1000000) :
 Calls Tryz.prog 144 #[inV s r pc,.int .i64 most] w fun e w'=>InT s (qds s.data.toList most r) w e w':=by
 unfold inV
 by_cases he:r.e=0
 ·have e0:(r.e:Int)=0:=by omega
  rw [e0]
  have hsl:s.data.toList.length=s.size:=by simp
  cases hgl:getL (s.data.toList.drop r.pos) with
  | no c =>
    have HGE:=hI (fun W=>qpi s r.pos c W hp hs hgl)
    have hc:=qeu hgl
    have hc0:((c:Int) == 0)=false:=by simp;omega
    have hc1:((c:Int) != 0)=true:=by simp;omega
    have HC1:Hid ((c:Int)≠0):=by show _≠_;omega
    have HNR:=hI (quf (most:=most) he hgl)
    clear hgl hc he e0 hsl
    go_enter Tryz.func144,Tryz.ntmps144
    go_wp2_with (first | (go_at_call 143;refine (HGE.out _).mono ?_;rintro e w' ⟨rfl,rfl⟩) | (go_at_call 97;refine (qdp _ _ _ _ _ _ _ _ HC1.out).mono ?_;rintro e w' ⟨rfl,rfl⟩))
    rw [HNR.out]
    refine bodyPost_ret (v:=.tuple #[inV s ⟨r.pos,c⟩ ⟨#[116,101,120,116]⟩,.string ⟨#[]⟩]) (by simp [results,Tryz.results144,go_sem,inV]) rfl ⟨?_,_,rfl⟩
    exact qad (qad (qad (bel1 w _) _) _) _
  | ok n k =>
    have HGE:=hI (fun W=>qph s r.pos n k W hp hs hgl)
    obtain ⟨-,-,hk,hn⟩:=qdi hgl
    have hk2:r.pos + k≤s.size:=by rw [List.length_drop] at hk;simp at hk;omega
    have HM:Hid (∀ (c:Int) (hc:c≠0) (s pc piece:ByteArray) (p e0 to:Int) (W:World),Calls Tryz.prog 97 #[.agg #[.string s,.int .i64 p,.string pc,.int .i64 e0],.string piece,.int .i64 to,.int .i64 c] W fun ev w'=>ev=.returned (.agg #[.string s,.int .i64 p,.string piece,.int .i64 c])∧w'=(W.alloc (.cells #[.string s,.int .i64 p,.string piece,.int .i64 c] 96)).alloc (.cells #[.string s,.int .i64 p,.string piece,.int .i64 c] 96)):=fun c hc s pc piece p e0 to W=>qdp s pc piece p e0 to c W hc
    have HM3:=hI (HM.out 3 (by omega))
    have HM4:=hI (HM.out 4 (by omega))
    clear HM
    by_cases hbig:most < n
    ·have HNR:=hI (qpu he hgl hbig)
     clear hgl he e0 hsl hk hk2 hn
     go_enter Tryz.func144,Tryz.ntmps144
     go_wp2_with (first | (go_at_call 143;refine (HGE.out _).mono ?_;rintro e w' ⟨rfl,rfl⟩) | (go_at_call 97;refine (HM3.out _ _ _ _ _ _ _).mono ?_;rintro e w' ⟨rfl,rfl⟩))
     rw [HNR.out]
     refine bodyPost_ret (v:=.tuple #[inV s ⟨r.pos,3⟩ ⟨#[116,101,120,116]⟩,.string ⟨#[]⟩]) (by simp [results,Tryz.results144,go_sem,inV]) rfl ⟨?_,_,rfl⟩
     exact qad (qad (qad (bel1 w _) _) _) _
    ·have hb4:decide (most < n)=false:=by simp;omega
     obtain ⟨q,hq⟩:∃ q,r.pos + k=q:=⟨_,rfl⟩
     rw [hq] at HGE hk2
     by_cases hsh:s.size - q < n
     ·have HNR:=hI (qky he hgl hbig (by rw [hsl,hq];exact hsh))
      have hb5:decide ((s.size:Int) - (q:Int) < (n:Int))=true:=by simp;omega
      clear hgl he e0 hsl hk hn hbig hq hsh
      go_enter Tryz.func144,Tryz.ntmps144
      go_wp2_with (first | (go_at_call 143;refine (HGE.out _).mono ?_;rintro e w' ⟨rfl,rfl⟩) | (go_at_call 97;refine (HM4.out _ _ _ _ _ _ _).mono ?_;rintro e w' ⟨rfl,rfl⟩))
      rw [HNR.out]
      refine bodyPost_ret (v:=.tuple #[inV s ⟨r.pos,4⟩ ⟨#[116,101,120,116]⟩,.string ⟨#[]⟩]) (by simp [results,Tryz.results144,go_sem,inV]) rfl ⟨?_,_,rfl⟩
      exact qad (qad (qad (bel1 w _) _) _) _
     ·have HNR:=hI (qpv he hgl hbig (by rw [hsl,hq];exact hsh))
      rw [hq] at HNR
      have hb5:decide ((s.size:Int) - (q:Int) < (n:Int))=false:=by simp;omega
      have hz1:(q:Int) + (n:Int)≤(s.size:Int):=by omega
      have HXS:Hid (s.extract q (q + n)=⟨((s.data.toList.drop q).take n).toArray⟩):=by
       have e1:s.extract q (q + n)=⟨((s.data.toList.drop q).take n).toArray⟩:=by
        apply ByteArray.ext
        apply Array.ext'
        rw [qgo]
        simp
       exact e1
      clear hgl he e0 hsl hk hk2 hn hbig hq hsh
      go_enter Tryz.func144,Tryz.ntmps144
      go_wp2_with (go_at_call 143;refine (HGE.out _).mono ?_;rintro e w' ⟨rfl,rfl⟩)
      have hsum:IntKind.i64.wrap ((q:Int) + (n:Int))=(q:Int) + (n:Int):=IntWalk.i64_in _ (by omega)
      have hq0:(0:Int)≤(q:Int):=by omega
      have hq1:(0:Int)≤(q:Int) + (n:Int):=by omega
      have hq2:((q:Int) + (n:Int)).toNat=q + n:=by omega
      have hq3:(q:Int)≤(q:Int) + (n:Int):=by omega
      have z0:((w.alloc (.cells #[.string s,.int .i64 (r.pos:Int),.string pc,.int .i64 0] 96)).alloc (.cells #[.string ⟨#[]⟩,.int .i64 0,.string ⟨#[]⟩,.int .i64 0] 96)).cell? ⟨w.heap.size,0,none⟩=some (.string s):=by simp
      have z1:((w.alloc (.cells #[.string s,.int .i64 (r.pos:Int),.string pc,.int .i64 0] 96)).alloc (.cells #[.string ⟨#[]⟩,.int .i64 0,.string ⟨#[]⟩,.int .i64 0] 96)).cell? ⟨w.heap.size,1,none⟩=some (.int .i64 (r.pos:Int)):=by simp
      have z2:((w.alloc (.cells #[.string s,.int .i64 (r.pos:Int),.string pc,.int .i64 0] 96)).alloc (.cells #[.string ⟨#[]⟩,.int .i64 0,.string ⟨#[]⟩,.int .i64 0] 96)).cell? ⟨w.heap.size,2,none⟩=some (.string pc):=by simp
      have z3:((w.alloc (.cells #[.string s,.int .i64 (r.pos:Int),.string pc,.int .i64 0] 96)).alloc (.cells #[.string ⟨#[]⟩,.int .i64 0,.string ⟨#[]⟩,.int .i64 0] 96)).cell? ⟨w.heap.size,3,none⟩=some (.int .i64 0):=by simp
      go_region_held3 (fun w'=>w'.cell? ⟨w.heap.size,0,none⟩=some (.string s)∧w'.cell? ⟨w.heap.size,1,none⟩=some (.int .i64 (r.pos:Int))∧w'.cell? ⟨w.heap.size,2,none⟩=some (.string pc)∧w'.cell? ⟨w.heap.size,3,none⟩=some (.int .i64 0)) (first | go_keep | exact ⟨z0,z1,z2,z3⟩)
       ((go_at_call 97;refine (qie _ _ _ _ _ _ _).mono ?_;rintro e w' ⟨rfl,rfl⟩))
      go_wp2
      rw [HNR.out]
      refine bodyPost_ret (v:=.tuple #[inV s ⟨q + n,0⟩ pc,.string (s.extract q (q + n))]) (by simp [results,Tryz.results144,go_sem,inV]) rfl ⟨?_,_,by rw [HXS.out]⟩
      exact (qad (qad (qad (bel1 w _) _) _) _).drew
 ·have HNR:Hid (qds s.data.toList most r=(r,[])):=qkz he
  have e0:((r.e:Int) != 0)=true:=by simpa using he
  clear he
  go_enter Tryz.func144,Tryz.ntmps144
  go_wp2
  rw [HNR.out]
  refine bodyPost_ret (v:=.tuple #[inV s r pc,.string ⟨#[]⟩]) (by simp [results,Tryz.results144,go_sem,inV]) rfl ⟨?_,_,rfl⟩
  exact qad (bel1 w _) _
set_option maxRecDepth 100000 in
set_option maxHeartbeats 1000000 in
theorem rEnd_any (s pc:ByteArray) (r:RS) (w:World) :
 Calls Tryz.prog 48 #[inV s r pc] w fun e w'=>InE s (endR s.data.toList r) w e w':=by
 unfold inV
 have hsl:s.data.toList.length=s.size:=by simp
 by_cases h:r.e=0∧r.pos < s.size
 ·have HNR:Hid (endR s.data.toList r=⟨r.pos,6⟩):=by show _=_;unfold endR;rw [hsl,if_pos h]
  have e0:((r.e:Int) == 0)=true:=by simp;omega
  have hps:=h.2
  have HM:Hid (∀ (s pc piece:ByteArray) (p e0 to:Int) (W:World),Calls Tryz.prog 97 #[.agg #[.string s,.int .i64 p,.string pc,.int .i64 e0],.string piece,.int .i64 to,.int .i64 6] W fun ev w'=>ev=.returned (.agg #[.string s,.int .i64 p,.string piece,.int .i64 6])∧w'=(W.alloc (.cells #[.string s,.int .i64 p,.string piece,.int .i64 6] 96)).alloc (.cells #[.string s,.int .i64 p,.string piece,.int .i64 6] 96)):=fun s pc piece p e0 to W=>qdp s pc piece p e0 to 6 W (by omega)
  clear h hsl
  go_enter Tryz.func48,Tryz.ntmps48
  go_wp2_with (go_at_call 97;refine (HM.out _ _ _ _ _ _ _).mono ?_;rintro e w' ⟨rfl,rfl⟩)
  rw [HNR.out]
  refine bodyPost_ret (v:=inV s ⟨r.pos,6⟩ ⟨#[101,110,100]⟩) (by simp [results,Tryz.results48,go_sem,inV]) rfl ⟨?_,_,rfl⟩
  exact qad (qad (qad (bel1 w _) _) _) _
 ·have HNR:Hid (endR s.data.toList r=r):=by show _=_;unfold endR;rw [hsl,if_neg h]
  by_cases he:r.e=0
  ·have e0:((r.e:Int) == 0)=true:=by simp;omega
   have hps:decide (r.pos < s.size)=false:=by simp;omega
   clear h hsl he
   go_enter Tryz.func48,Tryz.ntmps48
   go_wp2
   rw [HNR.out]
   refine bodyPost_ret (v:=inV s r pc) (by simp [results,Tryz.results48,go_sem,inV]) rfl ⟨?_,_,rfl⟩
   exact qad (bel1 w _) _
  ·have e0:((r.e:Int) == 0)=false:=by simp;omega
   clear h hsl he
   go_enter Tryz.func48,Tryz.ntmps48
   go_wp2
   rw [HNR.out]
   refine bodyPost_ret (v:=inV s r pc) (by simp [results,Tryz.results48,go_sem,inV]) rfl ⟨?_,_,rfl⟩
   exact qad (bel1 w _) _
set_option maxRecDepth 100000 in
set_option maxHeartbeats 2000000 in
theorem qmf (s pc:ByteArray) (r:RS) (most:Nat) (w:World) (hp:r.pos≤s.size) (hs:s.size≤1000000) (hm:most≤1000) :
 Calls Tryz.prog 95 #[inV s r pc,.int .i64 most] w fun e w'=>InR s (rowR s.data.toList most r) w e w':=by
 unfold inV
 by_cases he:r.e=0
 ·have e0:(r.e:Int)=0:=by omega
  rw [e0]
  have HU:=hI (qze s r.pos most ((w.alloc (.cells #[.string s,.int .i64 (r.pos:Int),.string pc,.int .i64 0] 96)).alloc (.cells #[.string ⟨#[]⟩,.int .i64 0,.string ⟨#[]⟩,.int .i64 0] 96)) hp hs hm)
  cases hun:qdt (s.data.toList.drop r.pos) most with
  | no c =>
    have hc:=qnx hun
    have HNR:=hI (rowR_no he hun)
    rw [hun] at HU
    have HC1:Hid ((c:Int)≠0):=by show _≠_;omega
    clear hun hc he e0
    go_enter Tryz.func95,Tryz.ntmps95
    go_wp2_with fail
    refine HU.out.mono ?_
    rintro e w1 ⟨hb1,rfl⟩
    obtain ⟨hc,hf⟩:=bcell hb1
    have hz:w.heap.size + 1 < w1.heap.size:=by have:=hb1.size;simp at this;omega
    have hz0:w.heap.size < w1.heap.size:=by omega
    have b0:w1.cell? ⟨w.heap.size,0,none⟩=some (.string s):=by rw [hc _ _ (by simp;omega)];simp
    have b1:w1.cell? ⟨w.heap.size,1,none⟩=some (.int .i64 (r.pos:Int)):=by rw [hc _ _ (by simp;omega)];simp
    have b2:w1.cell? ⟨w.heap.size,2,none⟩=some (.string pc):=by rw [hc _ _ (by simp;omega)];simp
    have b3:w1.cell? ⟨w.heap.size,3,none⟩=some (.int .i64 0):=by rw [hc _ _ (by simp;omega)];simp
    have d0:w1.cell? ⟨w.heap.size + 1,0,none⟩=some (.string ⟨#[]⟩):=by rw [hc _ _ (by simp)];simp
    have d1:w1.cell? ⟨w.heap.size + 1,1,none⟩=some (.int .i64 0):=by rw [hc _ _ (by simp)];simp
    have d2:w1.cell? ⟨w.heap.size + 1,2,none⟩=some (.string ⟨#[]⟩):=by rw [hc _ _ (by simp)];simp
    have d3:w1.cell? ⟨w.heap.size + 1,3,none⟩=some (.int .i64 0):=by rw [hc _ _ (by simp)];simp
    have g0:w1.frozen? ⟨w.heap.size + 1,0,none⟩=false:=by rw [hf _ _ (by simp)];simp
    have g1:w1.frozen? ⟨w.heap.size + 1,1,none⟩=false:=by rw [hf _ _ (by simp)];simp
    have g2:w1.frozen? ⟨w.heap.size + 1,2,none⟩=false:=by rw [hf _ _ (by simp)];simp
    have g3:w1.frozen? ⟨w.heap.size + 1,3,none⟩=false:=by rw [hf _ _ (by simp)];simp
    have HB1:=hI (qac (qad (bel1 w _) _) hb1)
    clear hb1 hc hf
    go_wp2_with (go_at_call 97;refine (qdp _ _ _ _ _ _ _ _ HC1.out).mono ?_;rintro e w' ⟨rfl,rfl⟩)
    rw [HNR.out]
    obtain ⟨k0,k1,k2,k3⟩:=qri w1 (w.heap.size + 1) (.string s) (.int .i64 (r.pos:Int)) (.string ⟨#[114,111,119]⟩) (.int .i64 (c:Int)) _ _ _ _ d0 d1 d2 d3 (.cells #[.string s,.int .i64 (r.pos:Int),.string ⟨#[114,111,119]⟩,.int .i64 (c:Int)] 96) (.cells #[.string s,.int .i64 (r.pos:Int),.string ⟨#[114,111,119]⟩,.int .i64 (c:Int)] 96)
    refine bodyPost_ret (v:=.tuple #[inV s ⟨r.pos,c⟩ ⟨#[114,111,119]⟩,.slice none 0 0]) (by simp [results,Tryz.results95,go_sem,inV,k0,k1,k2,k3]) rfl ⟨?_,_,none,0,rfl,RdI.none_,⟨fun _=>rfl,Nat.zero_le _⟩,fun _ h=>by cases h⟩
    repeat' (first | exact HB1.out | (refine Below.setCell ?_ (by simp) _) | (refine qad ?_ _))
  | ok l k =>
    have HNR:=hI (qug he hun)
    rw [hun] at HU
    clear hun he e0
    go_enter Tryz.func95,Tryz.ntmps95
    go_wp2_with fail
    refine HU.out.mono ?_
    rintro e w1 ⟨hb1,A,cp,rfl,hrd,hnil,hlo⟩
    obtain ⟨hc,hf⟩:=bcell hb1
    have hz:w.heap.size + 1 < w1.heap.size:=by have:=hb1.size;simp at this;omega
    have hz0:w.heap.size < w1.heap.size:=by omega
    have b0:w1.cell? ⟨w.heap.size,0,none⟩=some (.string s):=by rw [hc _ _ (by simp;omega)];simp
    have b1:w1.cell? ⟨w.heap.size,1,none⟩=some (.int .i64 (r.pos:Int)):=by rw [hc _ _ (by simp;omega)];simp
    have b2:w1.cell? ⟨w.heap.size,2,none⟩=some (.string pc):=by rw [hc _ _ (by simp;omega)];simp
    have b3:w1.cell? ⟨w.heap.size,3,none⟩=some (.int .i64 0):=by rw [hc _ _ (by simp;omega)];simp
    have d0:w1.cell? ⟨w.heap.size + 1,0,none⟩=some (.string ⟨#[]⟩):=by rw [hc _ _ (by simp)];simp
    have d1:w1.cell? ⟨w.heap.size + 1,1,none⟩=some (.int .i64 0):=by rw [hc _ _ (by simp)];simp
    have d2:w1.cell? ⟨w.heap.size + 1,2,none⟩=some (.string ⟨#[]⟩):=by rw [hc _ _ (by simp)];simp
    have d3:w1.cell? ⟨w.heap.size + 1,3,none⟩=some (.int .i64 0):=by rw [hc _ _ (by simp)];simp
    have g0:w1.frozen? ⟨w.heap.size + 1,0,none⟩=false:=by rw [hf _ _ (by simp)];simp
    have g1:w1.frozen? ⟨w.heap.size + 1,1,none⟩=false:=by rw [hf _ _ (by simp)];simp
    have g2:w1.frozen? ⟨w.heap.size + 1,2,none⟩=false:=by rw [hf _ _ (by simp)];simp
    have g3:w1.frozen? ⟨w.heap.size + 1,3,none⟩=false:=by rw [hf _ _ (by simp)];simp
    have HB1:=hI (qac (qad (bel1 w _) _) hb1)
    clear hb1 hc hf
    have HRD:=hI hrd
    have HNI:=hI hnil
    have HLO:=hI hlo
    clear hrd hnil hlo
    go_wp2_with (go_at_call 97;refine (qie _ _ _ _ _ _ _).mono ?_;rintro e w' ⟨rfl,rfl⟩)
    rw [HNR.out]
    obtain ⟨k0,k1,k2,k3⟩:=qri w1 (w.heap.size + 1) (.string s) (.int .i64 ((r.pos:Int) + (k:Int))) (.string pc) (.int .i64 0) _ _ _ _ d0 d1 d2 d3 (.cells #[.string s,.int .i64 ((r.pos:Int) + (k:Int)),.string pc,.int .i64 0] 96) (.cells #[.string s,.int .i64 ((r.pos:Int) + (k:Int)),.string pc,.int .i64 0] 96)
    refine bodyPost_ret (v:=.tuple #[inV s ⟨r.pos + k,0⟩ pc,.slice A l.length cp]) (by simp [results,Tryz.results95,go_sem,inV,k0,k1,k2,k3]) rfl ⟨?_,_,A,cp,rfl,?_,HNI.out,fun a ha=>by have:=HLO.out a ha;simp at this;omega⟩
    ·repeat' (first | exact HB1.out | (refine Below.setCell ?_ (by simp) _) | (refine qad ?_ _))
    ·refine HRD.out.grown (g:=w.heap.size + 1) ?_ (fun a ha=>by have:=HLO.out a ha;simp at this;omega)
     repeat' (first | exact World.grownBy.refl _ _ | (refine qal ?_ rfl _) | (refine qfj ?_ _))
 ·have HNR:Hid (rowR s.data.toList most r=(r,[])):=qnz he
  have e0:((r.e:Int) != 0)=true:=by simpa using he
  clear he
  go_enter Tryz.func95,Tryz.ntmps95
  go_wp2
  rw [HNR.out]
  refine bodyPost_ret (v:=.tuple #[inV s r pc,.slice none 0 0]) (by simp [results,Tryz.results95,go_sem,inV]) rfl ⟨?_,_,none,0,rfl,RdI.none_,⟨fun _=>rfl,Nat.zero_le _⟩,fun _ h=>by cases h⟩
  exact qad (bel1 w _) _
end Go.Proofs.YtnmojicfmcbgmaaGreatDoor
namespace Go.Proofs.YtnmojicfmcbgmaaGreatDoor
open Go.RowKit Nb
def outV (x:ByteArray):Value:=.agg #[.string x,.string ⟨#[]⟩,.int .i64 0]
theorem qtf {w:World} {g:Nat} {a b c:Value} {T:TypeId} (h:w.heap[g]?=some (.cells #[a,b,c] T (0,0))) (a' b' c':Value) :
 (((w.setCell ⟨g,0,none⟩ a').setCell ⟨g,1,none⟩ b').setCell ⟨g,2,none⟩ c').heap[g]?=some (.cells #[a',b',c'] T (0,0)):=by
 rw [qaj (qaj (qaj h 0 a') 1 b') 2 c'];rfl
theorem qfy {w:World} {g i:Nat} (hi:i≠g) (a' b' c':Value):(((w.setCell ⟨g,0,none⟩ a').setCell ⟨g,1,none⟩ b').setCell ⟨g,2,none⟩ c').heap[i]?=w.heap[i]?:=by
 rw [Below.heap_setCell _ _ _ _ hi,Below.heap_setCell _ _ _ _ hi,Below.heap_setCell _ _ _ _ hi]
theorem qay {w:World} {g:Nat} {o:Obj} (h:w.heap[g]?=some o) (x:Obj):(w.alloc x).heap[g]?=some o:=(Below.heap_alloc w x g (qaa h)).trans h
theorem qaz {w:World} {g:Nat} {a b c:Value} {T:TypeId} (h:w.heap[g]?=some (.cells #[a,b,c] T (0,0))) :
 w.cell? ⟨g,0,none⟩=some a∧w.cell? ⟨g,1,none⟩=some b∧w.cell? ⟨g,2,none⟩=some c∧w.frozen? ⟨g,0,none⟩=false∧w.frozen? ⟨g,1,none⟩=false∧w.frozen? ⟨g,2,none⟩=false :=
 ⟨by rw [qab h];rfl,by rw [qab h];rfl,by rw [qab h];rfl,Lib.frozen_of_heap h 0,Lib.frozen_of_heap h 1,Lib.frozen_of_heap h 2⟩
theorem bel3 {w a:World} {g:Nat} (h:Below w.heap.size w a) (hg:w.heap.size≤g) (x y z:Value):Below w.heap.size w (((a.setCell ⟨g,0,none⟩ x).setCell ⟨g,1,none⟩ y).setCell ⟨g,2,none⟩ z) :=
 ((h.setCell (p:=⟨g,0,none⟩) hg x).setCell (p:=⟨g,1,none⟩) hg y).setCell (p:=⟨g,2,none⟩) hg z
theorem qtg (x s piece:ByteArray) (w:World) (hl:x.size + s.size≤1000000000) :
 Calls Tryz.prog 74 #[.agg #[.string x,.string ⟨#[]⟩,.int .i64 0],.string piece,.string s,.int .i64 0] w fun e w'=>e=.returned (.agg #[.string (x ++ s),.string ⟨#[]⟩,.int .i64 0]) ∧
  w'=(w.alloc (.cells #[.string (x ++ s),.string ⟨#[]⟩,.int .i64 0] 75)).alloc (.cells #[.string (x ++ s),.string ⟨#[]⟩,.int .i64 0] 75):=by
 go_enter Tryz.func74,Tryz.ntmps74
 go_wp2
 exact bodyPost_ret (v:=.agg #[.string (x ++ s),.string ⟨#[]⟩,.int .i64 0]) (by simp [results,Tryz.results74,go_sem]) rfl ⟨rfl,rfl⟩
theorem qth (w:World) (x:ByteArray):((w.alloc (.cells #[.string x,.string ⟨#[]⟩,.int .i64 0] 75)).alloc (.cells #[.string ⟨#[]⟩,.string ⟨#[]⟩,.int .i64 0] 75)).heap[w.heap.size]?=some (.cells #[.string x,.string ⟨#[]⟩,.int .i64 0] 75 (0,0)) ∧
 ((w.alloc (.cells #[.string x,.string ⟨#[]⟩,.int .i64 0] 75)).alloc (.cells #[.string ⟨#[]⟩,.string ⟨#[]⟩,.int .i64 0] 75)).heap[w.heap.size + 1]?=some (.cells #[.string ⟨#[]⟩,.string ⟨#[]⟩,.int .i64 0] 75 (0,0)):=by
 constructor
 ·exact qay (by show (w.heap.push _)[w.heap.size]?=_;simp) _
 ·show ((w.heap.push _).push _)[w.heap.size + 1]?=_
  rw [Array.getElem?_push,if_pos (by simp)]
set_option maxRecDepth 100000 in
set_option maxHeartbeats 1000000 in
theorem qti (x s:ByteArray) (w:World) (hl:x.size + s.size≤900000000) :
 Calls Tryz.prog 37 #[outV x,.string s] w fun e w'=>e=.returned (outV (x ++ ⟨(qea s.data.toList).toArray⟩))∧Below w.heap.size w w':=by
 unfold outV
 have h9:=qbp s.size (by omega)
 obtain ⟨t0,t1⟩:=qth w x
 have HT0:=hI t0
 have HT1:=hI t1
 have HP:=hI (qhc s.size ((w.alloc (.cells #[.string x,.string ⟨#[]⟩,.int .i64 0] 75)).alloc (.cells #[.string ⟨#[]⟩,.string ⟨#[]⟩,.int .i64 0] 75)) (by omega))
 obtain ⟨y,hy⟩:∃ y:ByteArray,y=⟨(numB s.size).toArray⟩:=⟨_,rfl⟩
 have hys:y.size≤9:=by rw [hy,qdv];exact h9
 rw [←hy] at HP
 obtain ⟨z,hz⟩:∃ z,y ++ s=z:=⟨_,rfl⟩
 have hzs:z.size≤9 + s.size:=by rw [←hz,ByteArray.size_append];omega
 have HZ:Hid (z=⟨(qea s.data.toList).toArray⟩):=by
  have e0:z=⟨(qea s.data.toList).toArray⟩:=by
   rw [←hz,hy]
   apply ByteArray.ext
   simp [qea]
  exact e0
 clear hy h9 t0 t1
 go_enter Tryz.func37,Tryz.ntmps37
 go_wp2_with fail
 refine HP.out.mono ?_
 rintro e w1 ⟨rfl,hb1⟩
 have q0:=(hb1.block w.heap.size (qaa HT0.out)).trans HT0.out
 have q1:=(hb1.block (w.heap.size + 1) (qaa HT1.out)).trans HT1.out
 obtain ⟨b0,b1,b2,_,_,_⟩:=qaz q0
 obtain ⟨d0,d1,d2,g0,g1,g2⟩:=qaz q1
 have hz2:w.heap.size + 1 < w1.heap.size:=qaa q1
 have hz0:w.heap.size < w1.heap.size:=by omega
 have Q1:=hI q1
 have HB1:=hI (qac (qad (bel1 w _) _) hb1)
 clear hb1 q0 q1
 have hxz:x.size + z.size≤1000000000:=by omega
 go_wp2_with (go_at_call 74;refine (qtg x z _ _ hxz).mono ?_;rintro e w' ⟨rfl,rfl⟩)
 obtain ⟨k0,k1,k2,_,_,_⟩:=qaz (qay (qay (qtf Q1.out (.string (x ++ z)) (.string ⟨#[]⟩) (.int .i64 0)) (.cells #[.string (x ++ z),.string ⟨#[]⟩,.int .i64 0] 75)) (.cells #[.string (x ++ z),.string ⟨#[]⟩,.int .i64 0] 75))
 refine bodyPost_ret (v:=.agg #[.string (x ++ z),.string ⟨#[]⟩,.int .i64 0]) (by simp [results,Tryz.results37,go_sem,k0,k1,k2]) rfl ⟨by rw [HZ.out],?_⟩
 exact qad (qad (bel3 HB1.out (by omega) _ _ _) _) _
set_option maxRecDepth 100000 in
set_option maxHeartbeats 1000000 in
theorem qys (x:ByteArray) (A:Option Addr) (c:Nat) (d:Array Int) (w:World) (h:RdI w.heap.size w A d) (hd:LayN d) (hs:d.size≤10000) (hl:x.size≤900000000) :
 Calls Tryz.prog 33 #[outV x,.slice A d.size c] w fun e w'=>e=.returned (outV (x ++ ⟨(rowB (nats d)).toArray⟩))∧Below w.heap.size w w':=by
 unfold outV
 have h9:=qbp d.size (by omega)
 have hfl:=qdq (nats d) hd.nats
 rw [qfr] at hfl
 obtain ⟨t0,t1⟩:=qth w x
 have HT0:=hI t0
 have HT1:=hI t1
 have HP:=hI (rRow_any A c d ((w.alloc (.cells #[.string x,.string ⟨#[]⟩,.int .i64 0] 75)).alloc (.cells #[.string ⟨#[]⟩,.string ⟨#[]⟩,.int .i64 0] 75)) (h.next (qad (bel1 w _) _)) hd hs)
 obtain ⟨z,hy⟩:∃ y:ByteArray,y=⟨(rowB (nats d)).toArray⟩:=⟨_,rfl⟩
 have hzs:z.size≤100000:=by rw [hy,qdv];unfold rowB;rw [List.length_append,qfr];omega
 rw [←hy] at HP
 rw [←hy]
 clear hy h9 t0 t1 h hd hfl
 go_enter Tryz.func33,Tryz.ntmps33
 go_wp2_with fail
 refine HP.out.mono ?_
 rintro e w1 ⟨rfl,hb1⟩
 have q0:=(hb1.block w.heap.size (qaa HT0.out)).trans HT0.out
 have q1:=(hb1.block (w.heap.size + 1) (qaa HT1.out)).trans HT1.out
 obtain ⟨b0,b1,b2,_,_,_⟩:=qaz q0
 obtain ⟨d0,d1,d2,g0,g1,g2⟩:=qaz q1
 have hz2:w.heap.size + 1 < w1.heap.size:=qaa q1
 have hz0:w.heap.size < w1.heap.size:=by omega
 have Q1:=hI q1
 have HB1:=hI (qac (qad (bel1 w _) _) hb1)
 clear hb1 q0 q1
 have hxz:x.size + z.size≤1000000000:=by omega
 go_wp2_with (go_at_call 74;refine (qtg x z _ _ hxz).mono ?_;rintro e w' ⟨rfl,rfl⟩)
 obtain ⟨k0,k1,k2,_,_,_⟩:=qaz (qay (qay (qtf Q1.out (.string (x ++ z)) (.string ⟨#[]⟩) (.int .i64 0)) (.cells #[.string (x ++ z),.string ⟨#[]⟩,.int .i64 0] 75)) (.cells #[.string (x ++ z),.string ⟨#[]⟩,.int .i64 0] 75))
 refine bodyPost_ret (v:=.agg #[.string (x ++ z),.string ⟨#[]⟩,.int .i64 0]) (by simp [results,Tryz.results33,go_sem,k0,k1,k2]) rfl ⟨rfl,?_⟩
 exact qad (qad (bel3 HB1.out (by omega) _ _ _) _) _
def NumsR (x:ByteArray) (d:Array Int) (w:World) (iv:Value) (wr:World):Prop:=∃ (k:Nat) (y:ByteArray),iv=.int .i64 (k:Int)∧k≤d.size∧y.data.toList=x.data.toList ++ ((nats d).take k).flatMap numB ∧
 wr.heap[w.heap.size]?=some (.cells #[.string y,.string ⟨#[]⟩,.int .i64 0] 75 (0,0))∧wr.heap[w.heap.size + 1]?=some (.cells #[.string ⟨#[]⟩,.string ⟨#[]⟩,.int .i64 0] 75 (0,0))∧Below w.heap.size w wr
set_option maxRecDepth 100000 in
set_option maxHeartbeats 1000000 in
theorem Nums_any (x:ByteArray) (A:Option Addr) (c:Nat) (d:Array Int) (w:World) (h:RdI w.heap.size w A d) (hd:LayN d) (hs:d.size≤10000) (hl:x.size≤900000000) :
 Calls Tryz.prog 32 #[outV x,.slice A d.size c] w fun e w'=>e=.returned (outV (x ++ ⟨((nats d).flatMap numB).toArray⟩))∧Below w.heap.size w w':=by
 unfold outV
 have HR:=hI h
 have HD:=hI hd
 obtain ⟨t0,t1⟩:=qth w x
 have HT0:=hI t0
 have HT1:=hI t1
 clear h hd t0 t1
 go_enter Tryz.func32,Tryz.ntmps32
 go_wp2
 go_loopw [5] (fun i wr=>NumsR x d w i wr) (fun i _=>d.size - (intOf i).toNat)
 case atStart=>exact ⟨0,x,rfl,Nat.zero_le _,by simp,HT0.out,HT1.out,qad (bel1 w _) _⟩
 case round =>
  obtain ⟨k,y,rfl,hk,hy,hq0,hq1,hB⟩:=hrel
  have HY:=hI hy
  have HQ0:=hI hq0
  have HQ1:=hI hq1
  have HB:=hI hB
  have htl:=qks d HD.out k
  have hys:y.size≤900000000 + 9 * k:=by
   have e1:y.size=y.data.toList.length:=by simp
   have e2:x.size=x.data.toList.length:=by simp
   rw [e1,hy,List.length_append];omega
  clear hy hq0 hq1 hB htl
  by_cases hlt:k < d.size
  ·have kz:(k:Int) < (d.size:Int):=by omega
   obtain ⟨b,off,rfl,hbl,hc⟩:=(HR.out.below HB.out).at_ hlt
   have hx:=HD.out k hlt
   obtain ⟨n,hn⟩:∃ n:Nat,d[k]! = (n:Int):=⟨d[k]!.toNat,by omega⟩
   rw [hn] at hc
   have hn2:n≤9223372036854775807:=by omega
   have HN:Hid (d[k]!.toNat=n):=by show _=_;rw [hn];simp
   have hl9:=qbp n hn2
   have HP:=hI (qhc n wr hn2)
   obtain ⟨z,hz⟩:∃ y:ByteArray,y=⟨(numB n).toArray⟩:=⟨_,rfl⟩
   have hzs:z.size≤9:=by rw [hz,qdv];exact hl9
   rw [←hz] at HP
   have HZ:Hid ((y ++ z).data.toList=y.data.toList ++ numB n):=by
    have e0:(y ++ z).data.toList=y.data.toList ++ numB n:=by rw [hz];simp
    exact e0
   clear hx hn hn2 hz hl9
   go_wp2_with fail
   refine HP.out.mono ?_
   rintro e w1 ⟨rfl,hb1⟩
   have q0:=(hb1.block w.heap.size (qaa HQ0.out)).trans HQ0.out
   have q1:=(hb1.block (w.heap.size + 1) (qaa HQ1.out)).trans HQ1.out
   obtain ⟨b0,b1,b2,g0,g1,g2⟩:=qaz q0
   have hz2:w.heap.size + 1 < w1.heap.size:=qaa q1
   have hz0:w.heap.size < w1.heap.size:=by omega
   have Q0:=hI q0
   have Q1:=hI q1
   have HB1:=hI (qac HB.out hb1)
   clear hb1 q0 q1
   have hxz:y.size + z.size≤1000000000:=by omega
   go_wp2_with (go_at_call 74;refine (qtg y z _ _ hxz).mono ?_;rintro e w' ⟨rfl,rfl⟩)
   go_roundw
   case rel =>
    refine ⟨k + 1,y ++ z,by go_num,by omega,?_,qay (qay (qtf Q0.out _ _ _) _) _,qay (qay ((qfy (by omega) _ _ _).trans Q1.out) _) _,qad (qad (bel3 HB1.out (Nat.le_refl _) _ _ _) _) _⟩
    rw [HZ.out,HY.out,qji d k hlt,HN.out]
    simp
   case measure=>simp [intOf];omega
  ·have hlt':decide ((k:Int) < (d.size:Int))=false:=by simp;omega
   obtain ⟨b0,b1,b2,_,_,_⟩:=qaz HQ0.out
   obtain ⟨d0,d1,d2,g0,g1,g2⟩:=qaz HQ1.out
   have hz2:w.heap.size + 1 < wr.heap.size:=qaa HQ1.out
   have HE:Hid (y=x ++ ⟨((nats d).flatMap numB).toArray⟩):=by
    have e0:y=x ++ ⟨((nats d).flatMap numB).toArray⟩:=by
     apply ByteArray.ext
     apply Array.ext'
     have e1:k=d.size:=by omega
     rw [HY.out,e1,qkr]
     simp
    exact e0
   go_wp2
   obtain ⟨k0,k1,k2,_,_,_⟩:=qaz (qtf HQ1.out (.string y) (.string ⟨#[]⟩) (.int .i64 0))
   refine bodyPost_ret (v:=.agg #[.string y,.string ⟨#[]⟩,.int .i64 0]) (by simp [results,Tryz.results32,go_sem,k0,k1,k2]) rfl ⟨by rw [HE.out],?_⟩
   exact bel3 HB.out (by omega) _ _ _
end Go.Proofs.YtnmojicfmcbgmaaGreatDoor
