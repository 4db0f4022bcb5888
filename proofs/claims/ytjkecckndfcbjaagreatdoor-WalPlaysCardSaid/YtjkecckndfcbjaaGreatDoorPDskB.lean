/- Texts that the law leans on. -/
import Derived.Test.YtjkecckndfcbjaaGreatDoorPMsgF
import Derived.Test.YtjkecckndfcbjaaGreatDoorPRowA
import Derived.Test.YtjkecckndfcbjaaGreatDoorPBase
namespace Go.Proofs.YtjkecckndfcbjaaGreatDoor
open Go.RowKit
set_option maxRecDepth 100000
theorem qjc {W:World} {n:Nat} {v:Value} {t:TypeId} (hn:W.heap.size=n):((W.alloc (.cells #[v] t)).drew).cell? ⟨n,0,none⟩=some v:=by
 subst hn
 show (W.alloc (.cells #[v] t)).cell? _=_
 simp
theorem sync1_any (d:DK) (g f p q:Nat) (w:World) (h:DAt w g d) (hc:CapF w g f p q) :
 Calls Tryz.prog 93 #[.pointer (some ⟨p,0,none⟩),.pointer (some ⟨q,0,none⟩)] w (CloP g (d.put f ⟨(d.get f).s,(d.get f).s.size,(d.get f).half⟩) w):=by
 obtain ⟨c0,c1,-,c3,c4,-,-,-,-,-⟩:=h.cells
 have z1:=h.frozen 1
 have z4:=h.frozen 4
 obtain ⟨hf,p0,q0,-,-⟩:=hc
 have H:=hI h
 clear h
 rcases hf with rfl | rfl
 ·go_enter Tryz.func93,Tryz.ntmps93
  go_wp2
  go_region
  go_wp2
  go_end0
  exact ⟨rfl,H.out.sync 0 (Or.inl rfl) _,((But.refl g w).set _ _).drew⟩
 ·go_enter Tryz.func93,Tryz.ntmps93
  go_wp2
  go_region
  go_wp2
  go_end0
  exact ⟨rfl,H.out.sync 1 (Or.inr rfl) _,((But.refl g w).set _ _).drew⟩
theorem sync2_any (w:World):Calls Tryz.prog 94 #[] w fun e w'=>e=.returned (.tuple #[])∧w=w':=by
 go_enter Tryz.func94,Tryz.ntmps94
 go_wp2
 go_end0
 exact ⟨rfl,rfl⟩
theorem DAt.empty {w:World} {g:Nat} {d:DK} (h:DAt w g d) (f:Nat) (hf:f=0∨f=1):DAt (((w.setCell ⟨g,3 * f,none⟩ (.string ⟨#[]⟩)).setCell ⟨g,3 * f + 1,none⟩ (.int .i64 0)).setCell ⟨g,3 * f + 2,none⟩ (.bool false)) g (d.put f zF):=by
 rcases hf with rfl | rfl
 ·exact qae (qae (qae h _ _) _ _) _ _
 ·exact qae (qae (qae h _ _) _ _) _ _
theorem qws (d:DK) (g f p q:Nat) (w:World) (h:DAt w g d) (hc:CapF w g f p q) :
 Calls Tryz.prog 104 #[.pointer (some ⟨p,0,none⟩),.pointer (some ⟨q,0,none⟩)] w (CloP g (d.put f zF) w):=by
 obtain ⟨c0,c1,c2,c3,c4,c5,-,-,-,-⟩:=h.cells
 have z0:=h.frozen 0
 have z1:=h.frozen 1
 have z2:=h.frozen 2
 have z3:=h.frozen 3
 have z4:=h.frozen 4
 have z5:=h.frozen 5
 have hlt:=h.lt
 obtain ⟨hf,p0,q0,-,-⟩:=hc
 have H:=hI h
 clear h
 rcases hf with rfl | rfl
 ·go_enter Tryz.func104,Tryz.ntmps104
  go_wp2
  go_region
  go_wp2
  go_end0
  exact ⟨rfl,H.out.empty 0 (Or.inl rfl),((((But.refl g w).set _ _).set _ _).set _ _).drew⟩
 ·go_enter Tryz.func104,Tryz.ntmps104
  go_wp2
  go_region
  go_wp2
  go_end0
  exact ⟨rfl,H.out.empty 1 (Or.inr rfl),((((But.refl g w).set _ _).set _ _).set _ _).drew⟩
theorem qwt (d:DK) (g f p q:Nat) (w:World) (h:DAt w g d) (hc:CapF w g f p q) :
 Calls Tryz.prog 105 #[.pointer (some ⟨p,0,none⟩),.pointer (some ⟨q,0,none⟩)] w (CloP g (d.put f ⟨(d.get f).s,(d.get f).safe,true⟩) w):=by
 obtain ⟨-,-,c2,-,-,c5,-,-,-,-⟩:=h.cells
 have z2:=h.frozen 2
 have z5:=h.frozen 5
 obtain ⟨hf,p0,q0,-,-⟩:=hc
 have H:=hI h
 clear h
 rcases hf with rfl | rfl
 ·go_enter Tryz.func105,Tryz.ntmps105
  go_wp2
  go_region
  go_wp2
  go_end0
  exact ⟨rfl,H.out.half 0 (Or.inl rfl) _,((But.refl g w).set _ _).drew⟩
 ·go_enter Tryz.func105,Tryz.ntmps105
  go_wp2
  go_region
  go_wp2
  go_end0
  exact ⟨rfl,H.out.half 1 (Or.inr rfl) _,((But.refl g w).set _ _).drew⟩
theorem qez {c:Nat} {v:Value} {w':World} (hc:c≠0) (h:Chain w' [qhv] (c:Int) v):ErD c (.returned v) w':=⟨v,rfl,Or.inr ⟨by omega,by rw [if_neg hc];exact h⟩⟩
theorem qpv (w':World):ErD 0 (.returned .nilIface) w':=⟨_,rfl,Or.inl ⟨rfl,rfl,rfl⟩⟩
theorem qge (d:DK) (f:Nat) (x:FL):(d.put f x).ops=d.ops:=by unfold DK.put;split <;> rfl
theorem qdi (d:DK) (g p:Nat) (u:FrameMode) (w:World) (h:DAt w g d) (n:Nat) (hn:d.ops=n) (ho:n≤1000000000) (hp:w.cell? ⟨p,0,none⟩=some (.pointer (some ⟨g,0,none⟩))) :
 CallsD Tryz.prog 128 #[.pointer (some ⟨p,0,none⟩)] u w fun e u' w'=>u'=u∧(e=.returned (.tuple #[])∧w'=w.setCell ⟨g,7,none⟩ (.int .i64 ((n:Int) + 1))):=by
 obtain ⟨-,-,-,-,-,-,-,c7,-,-⟩:=h.cells
 rw [hn] at c7
 have z7:=h.frozen 7
 clear h hn
 go_enter_d Tryz.func128,Tryz.ntmps128
 go_wp2
 go_end0
 exact ⟨rfl,rfl⟩
set_option maxHeartbeats 2000000 in
theorem opA_any (d:DK) (g f p q r:Nat) (s:ByteArray) (w:World) (h:DAt w g d) (hok:d.ok) (ho:d.ops≤1000000000) (hc:CapF w g f p q) (hs:s.size≤2000000000) (h2:w.cell? ⟨r,0,none⟩=some (.string s)) (hr:r≠g) :
 Calls Tryz.prog 91 #[.pointer (some ⟨g,0,none⟩),.func (.func 90) #[] #[.pointer (some ⟨p,0,none⟩),.pointer (some ⟨q,0,none⟩),.pointer (some ⟨r,0,none⟩)],.func (.func 90) #[] #[.pointer (some ⟨p,0,none⟩),.pointer (some ⟨q,0,none⟩),.pointer (some ⟨r,0,none⟩)]] w fun e w'=>ErD (offC d) e w'∧DAt w' g (appD d f s)∧But g w w':=by
 have hmf:∀ (fn:Fn) (first cap:Array Value) (w:World),(Instr.makeFunc fn first cap).run Tryz.prog w=.ok (.func fn first cap) w:=fun _ _ _ _=>rfl
 obtain ⟨-,-,-,-,-,-,-,c7,c8,c9⟩:=h.cells
 have z8:=h.frozen 8
 have z9:=h.frozen 9
 have hlt:=h.lt
 have H:=hI h
 have HC:=hI hc
 have HOK:=hI hok
 have harm:=hok.arm
 have H2:=hI h2
 have HS:=hI hs
 by_cases hoff:d.arm=1
 ·have HO:Hid (offC d=20):=by show _=_;unfold offC DK.off;rw [if_pos (by simpa using hoff)]
  have HP:Hid (appD d f s={ (({ d with arm:=0,dead:=true }:DK).put f ⟨(d.get f).s ++ s,(d.get f).safe,(d.get f).half⟩) with ops:=d.ops + 1 }):=by
   show _=_
   obtain ⟨hf,-⟩:=hc
   have hb:d.off=true:=by unfold DK.off;simpa using hoff
   rcases hf with rfl | rfl <;> simp [appD,DK.goes,DK.put,DK.get,hoff]
  have hoff':((d.arm:Int) == 1)=true:=by simp;omega
  have HT:=hI (fun (W:World)=>qdc 20 W (by omega))
  have HOK1:Hid ({ d with arm:=0,dead:=true }:DK).ok:=⟨hok.a,hok.b,hok.fit,hok.one,hok.room,Nat.zero_le _⟩
  clear h hc hok h2 hs hoff
  go_enter_defers Tryz.func91,Tryz.ntmps91
  go_wp2
  go_region
  have D1:Hid (DAt ((((w.setCell ⟨g,8,none⟩ (.int .i64 0)).setCell ⟨g,9,none⟩ (.bool true)).alloc (.cells #[.pointer (some ⟨g,0,none⟩)] 25)).drew) g { d with arm:=0,dead:=true }):=by
   have D0:DAt ((w.setCell ⟨g,8,none⟩ (.int .i64 0)).setCell ⟨g,9,none⟩ (.bool true)) g { d with arm:=0,dead:=true }:=(H.out.arm 0).dead true
   exact (D0.below (bel1 _ _)).drew
  have B1:Hid (But g w ((((w.setCell ⟨g,8,none⟩ (.int .i64 0)).setCell ⟨g,9,none⟩ (.bool true)).alloc (.cells #[.pointer (some ⟨g,0,none⟩)] 25)).drew)):=((((But.refl g w).set 8 _).set 9 _).alloc _).drew
  have X1:Hid (((((w.setCell ⟨g,8,none⟩ (.int .i64 0)).setCell ⟨g,9,none⟩ (.bool true)).alloc (.cells #[.pointer (some ⟨g,0,none⟩)] 25)).drew).cell? ⟨w.heap.size,0,none⟩=some (.pointer (some ⟨g,0,none⟩))):=qjc (by simp [World.setCell])
  generalize (((w.setCell ⟨g,8,none⟩ (.int .i64 0)).setCell ⟨g,9,none⟩ (.bool true)).alloc (.cells #[.pointer (some ⟨g,0,none⟩)] 25)).drew=W1 at D1 B1 X1 ⊢
  go_wp2_with (go_at_call 90;refine (quu _ g f p q r s W1 D1.out HOK1.out HS.out (HC.out.but B1.out) ((B1.out.cell (qan H2.out) hr).trans H2.out)).mono ?_;rintro _ w2 ⟨rfl,hd2,hb2⟩;have D2:=hI hd2;have B2:=hI (B1.out.trans hb2);have X2:=hI ((hb2.cell (qan X1.out) (Nat.ne_of_gt hlt)).trans X1.out);clear hd2 hb2)
  go_wp2_with (go_at_call 32;refine (HT.out _).mono ?_;rintro e w3 ⟨v,rfl,hch,hb3⟩;have HCH:=hI hch;have B3:=hI (B2.out.trans (But.of hb3));have D3:=hI (D2.out.below hb3);have X3:=hI ((hb3.cell (qan X2.out)).trans X2.out);clear hch hb3)
  refine leaves_cons (f:=128) (args:=#[.pointer (some ⟨w.heap.size,0,none⟩)]) (by simp) (by simp [go_sem]) ?_
  refine (qdi _ g w.heap.size .returning w3 D3.out d.ops (qge _ _ _) ho X3.out).mono ?_
  rintro e u' w'' ⟨rfl,rfl,rfl⟩
  have D4:DAt (w3.setCell ⟨g,7,none⟩ (.int .i64 ((d.ops:Int) + 1))) g (appD d f s):=by rw [HP.out];exact D3.out.ops (d.ops + 1)
  exact ⟨_,results_tmp rfl _ _ _,by rw [HO.out];exact qez (by decide) (HCH.out.but ((But.refl g w3).set 7 _) D3.out.noFlt),D4,B3.out.set 7 _⟩
 ·have HO:Hid (offC d=0):=by show _=_;unfold offC DK.off;rw [if_neg (by simpa using hoff)]
  have HP:Hid (appD d f s={ (({ d with arm:=d.arm - 1 }:DK).put f ⟨(d.get f).s ++ s,(d.get f).safe,(d.get f).half⟩) with ops:=d.ops + 1 }):=by
   show _=_
   obtain ⟨hf,-⟩:=hc
   have hb:d.off=false:=by unfold DK.off;simpa using hoff
   rcases hf with rfl | rfl <;> simp [appD,DK.goes,DK.put,DK.get,hoff]
  have hoff':((d.arm:Int) == 1)=false:=by simp;omega
  have HOK1:Hid ({ d with arm:=d.arm - 1 }:DK).ok:=⟨hok.a,hok.b,hok.fit,hok.one,hok.room,by show d.arm - 1≤1000000;omega⟩
  obtain ⟨m,hm⟩:∃ m:Nat,d.arm - 1=m:=⟨_,rfl⟩
  have hmx:max ((d.arm:Int) - 1) 0=(m:Int):=by omega
  rw [hm] at HOK1 HP
  clear h hc hok h2 hs hm
  go_enter_defers Tryz.func91,Tryz.ntmps91
  go_wp2
  go_region
  have D1:Hid (DAt (((w.setCell ⟨g,8,none⟩ (.int .i64 (m:Int))).alloc (.cells #[.pointer (some ⟨g,0,none⟩)] 25)).drew) g { d with arm:=m }):=((H.out.arm m).below (bel1 _ _)).drew
  have B1:Hid (But g w (((w.setCell ⟨g,8,none⟩ (.int .i64 (m:Int))).alloc (.cells #[.pointer (some ⟨g,0,none⟩)] 25)).drew)):=(((But.refl g w).set 8 _).alloc _).drew
  have X1:Hid ((((w.setCell ⟨g,8,none⟩ (.int .i64 (m:Int))).alloc (.cells #[.pointer (some ⟨g,0,none⟩)] 25)).drew).cell? ⟨w.heap.size,0,none⟩=some (.pointer (some ⟨g,0,none⟩))):=qjc (by simp [World.setCell])
  generalize ((w.setCell ⟨g,8,none⟩ (.int .i64 (m:Int))).alloc (.cells #[.pointer (some ⟨g,0,none⟩)] 25)).drew=W1 at D1 B1 X1 ⊢
  go_wp2_with (go_at_call 90;refine (quu _ g f p q r s W1 D1.out HOK1.out HS.out (HC.out.but B1.out) ((B1.out.cell (qan H2.out) hr).trans H2.out)).mono ?_;rintro _ w2 ⟨rfl,hd2,hb2⟩;have D2:=hI hd2;have B2:=hI (B1.out.trans hb2);have X2:=hI ((hb2.cell (qan X1.out) (Nat.ne_of_gt hlt)).trans X1.out);clear hd2 hb2)
  refine leaves_cons (f:=128) (args:=#[.pointer (some ⟨w.heap.size,0,none⟩)]) (by simp) (by simp [go_sem]) ?_
  refine (qdi _ g w.heap.size .returning w2 D2.out d.ops (qge _ _ _) ho X2.out).mono ?_
  rintro e u' w'' ⟨rfl,rfl,rfl⟩
  have D4:DAt (w2.setCell ⟨g,7,none⟩ (.int .i64 ((d.ops:Int) + 1))) g (appD d f s):=by rw [HP.out];exact D2.out.ops (d.ops + 1)
  exact ⟨_,results_tmp rfl _ _ _,by rw [HO.out];exact qpv _,D4,B2.out.set 7 _⟩
set_option maxHeartbeats 2000000 in
theorem opS_any (d:DK) (g f p q:Nat) (w:World) (h:DAt w g d) (hok:d.ok) (ho:d.ops≤1000000000) (hc:CapF w g f p q) :
 Calls Tryz.prog 91 #[.pointer (some ⟨g,0,none⟩),.func (.func 93) #[] #[.pointer (some ⟨p,0,none⟩),.pointer (some ⟨q,0,none⟩)],.func (.func 94) #[] #[]] w fun e w'=>ErD (offC d) e w'∧DAt w' g (qfq d f)∧But g w w':=by
 have hmf:∀ (fn:Fn) (first cap:Array Value) (w:World),(Instr.makeFunc fn first cap).run Tryz.prog w=.ok (.func fn first cap) w:=fun _ _ _ _=>rfl
 obtain ⟨-,-,-,-,-,-,-,c7,c8,c9⟩:=h.cells
 have z8:=h.frozen 8
 have z9:=h.frozen 9
 have hlt:=h.lt
 have H:=hI h
 have HC:=hI hc
 have HOK:=hI hok
 have harm:=hok.arm
 by_cases hoff:d.arm=1
 ·have HO:Hid (offC d=20):=by show _=_;unfold offC DK.off;rw [if_pos (by simpa using hoff)]
  have HP:Hid (qfq d f={ ({ d with arm:=0,dead:=true }:DK) with ops:=d.ops + 1 }):=by
   show _=_
   obtain ⟨hf,-⟩:=hc
   have hb:d.off=true:=by unfold DK.off;simpa using hoff
   rcases hf with rfl | rfl <;> simp [qfq,hb,DK.goes,hoff]
  have hoff':((d.arm:Int) == 1)=true:=by simp;omega
  have HT:=hI (fun (W:World)=>qdc 20 W (by omega))
  have HOK1:Hid ({ d with arm:=0,dead:=true }:DK).ok:=⟨hok.a,hok.b,hok.fit,hok.one,hok.room,Nat.zero_le _⟩
  clear h hc hok hoff
  go_enter_defers Tryz.func91,Tryz.ntmps91
  go_wp2
  go_region
  have D1:Hid (DAt ((((w.setCell ⟨g,8,none⟩ (.int .i64 0)).setCell ⟨g,9,none⟩ (.bool true)).alloc (.cells #[.pointer (some ⟨g,0,none⟩)] 25)).drew) g { d with arm:=0,dead:=true }):=by
   have D0:DAt ((w.setCell ⟨g,8,none⟩ (.int .i64 0)).setCell ⟨g,9,none⟩ (.bool true)) g { d with arm:=0,dead:=true }:=(H.out.arm 0).dead true
   exact (D0.below (bel1 _ _)).drew
  have B1:Hid (But g w ((((w.setCell ⟨g,8,none⟩ (.int .i64 0)).setCell ⟨g,9,none⟩ (.bool true)).alloc (.cells #[.pointer (some ⟨g,0,none⟩)] 25)).drew)):=((((But.refl g w).set 8 _).set 9 _).alloc _).drew
  have X1:Hid (((((w.setCell ⟨g,8,none⟩ (.int .i64 0)).setCell ⟨g,9,none⟩ (.bool true)).alloc (.cells #[.pointer (some ⟨g,0,none⟩)] 25)).drew).cell? ⟨w.heap.size,0,none⟩=some (.pointer (some ⟨g,0,none⟩))):=qjc (by simp [World.setCell])
  generalize (((w.setCell ⟨g,8,none⟩ (.int .i64 0)).setCell ⟨g,9,none⟩ (.bool true)).alloc (.cells #[.pointer (some ⟨g,0,none⟩)] 25)).drew=W1 at D1 B1 X1 ⊢
  go_wp2_with (go_at_call 94;refine (sync2_any W1).mono ?_;rintro _ w2 ⟨rfl,rfl⟩;have D2:=D1;have B2:=B1;have X2:=X1)
  go_wp2_with (go_at_call 32;refine (HT.out _).mono ?_;rintro e w3 ⟨v,rfl,hch,hb3⟩;have HCH:=hI hch;have B3:=hI (B2.out.trans (But.of hb3));have D3:=hI (D2.out.below hb3);have X3:=hI ((hb3.cell (qan X2.out)).trans X2.out);clear hch hb3)
  refine leaves_cons (f:=128) (args:=#[.pointer (some ⟨w.heap.size,0,none⟩)]) (by simp) (by simp [go_sem]) ?_
  refine (qdi _ g w.heap.size .returning w3 D3.out d.ops rfl ho X3.out).mono ?_
  rintro e u' w'' ⟨rfl,rfl,rfl⟩
  have D4:DAt (w3.setCell ⟨g,7,none⟩ (.int .i64 ((d.ops:Int) + 1))) g (qfq d f):=by rw [HP.out];exact D3.out.ops (d.ops + 1)
  exact ⟨_,results_tmp rfl _ _ _,by rw [HO.out];exact qez (by decide) (HCH.out.but ((But.refl g w3).set 7 _) D3.out.noFlt),D4,B3.out.set 7 _⟩
 ·have HO:Hid (offC d=0):=by show _=_;unfold offC DK.off;rw [if_neg (by simpa using hoff)]
  have HP:Hid (qfq d f={ (({ d with arm:=d.arm - 1 }:DK).put f ⟨(d.get f).s,(d.get f).s.size,(d.get f).half⟩) with ops:=d.ops + 1 }):=by
   show _=_
   obtain ⟨hf,-⟩:=hc
   have hb:d.off=false:=by unfold DK.off;simpa using hoff
   rcases hf with rfl | rfl <;> simp [qfq,hb,DK.goes,DK.put,DK.get,hoff]
  have hoff':((d.arm:Int) == 1)=false:=by simp;omega
  have HOK1:Hid ({ d with arm:=d.arm - 1 }:DK).ok:=⟨hok.a,hok.b,hok.fit,hok.one,hok.room,by show d.arm - 1≤1000000;omega⟩
  obtain ⟨m,hm⟩:∃ m:Nat,d.arm - 1=m:=⟨_,rfl⟩
  have hmx:max ((d.arm:Int) - 1) 0=(m:Int):=by omega
  rw [hm] at HOK1 HP
  clear h hc hok hm
  go_enter_defers Tryz.func91,Tryz.ntmps91
  go_wp2
  go_region
  have D1:Hid (DAt (((w.setCell ⟨g,8,none⟩ (.int .i64 (m:Int))).alloc (.cells #[.pointer (some ⟨g,0,none⟩)] 25)).drew) g { d with arm:=m }):=((H.out.arm m).below (bel1 _ _)).drew
  have B1:Hid (But g w (((w.setCell ⟨g,8,none⟩ (.int .i64 (m:Int))).alloc (.cells #[.pointer (some ⟨g,0,none⟩)] 25)).drew)):=(((But.refl g w).set 8 _).alloc _).drew
  have X1:Hid ((((w.setCell ⟨g,8,none⟩ (.int .i64 (m:Int))).alloc (.cells #[.pointer (some ⟨g,0,none⟩)] 25)).drew).cell? ⟨w.heap.size,0,none⟩=some (.pointer (some ⟨g,0,none⟩))):=qjc (by simp [World.setCell])
  generalize ((w.setCell ⟨g,8,none⟩ (.int .i64 (m:Int))).alloc (.cells #[.pointer (some ⟨g,0,none⟩)] 25)).drew=W1 at D1 B1 X1 ⊢
  go_wp2_with (go_at_call 93;refine (sync1_any _ g f p q W1 D1.out (HC.out.but B1.out)).mono ?_;rintro _ w2 ⟨rfl,hd2,hb2⟩;have D2:=hI hd2;have B2:=hI (B1.out.trans hb2);have X2:=hI ((hb2.cell (qan X1.out) (Nat.ne_of_gt hlt)).trans X1.out);clear hd2 hb2)
  refine leaves_cons (f:=128) (args:=#[.pointer (some ⟨w.heap.size,0,none⟩)]) (by simp) (by simp [go_sem]) ?_
  refine (qdi _ g w.heap.size .returning w2 D2.out d.ops (qge _ _ _) ho X2.out).mono ?_
  rintro e u' w'' ⟨rfl,rfl,rfl⟩
  have D4:DAt (w2.setCell ⟨g,7,none⟩ (.int .i64 ((d.ops:Int) + 1))) g (qfq d f):=by rw [HP.out];exact D2.out.ops (d.ops + 1)
  exact ⟨_,results_tmp rfl _ _ _,by rw [HO.out];exact qpv _,D4,B2.out.set 7 _⟩
set_option maxHeartbeats 2000000 in
theorem opR_any (d:DK) (g f p q:Nat) (w:World) (h:DAt w g d) (hok:d.ok) (ho:d.ops≤1000000000) (hc:CapF w g f p q) :
 Calls Tryz.prog 91 #[.pointer (some ⟨g,0,none⟩),.func (.func 104) #[] #[.pointer (some ⟨p,0,none⟩),.pointer (some ⟨q,0,none⟩)],.func (.func 105) #[] #[.pointer (some ⟨p,0,none⟩),.pointer (some ⟨q,0,none⟩)]] w fun e w'=>ErD (offC d) e w'∧DAt w' g (qby d f)∧But g w w':=by
 have hmf:∀ (fn:Fn) (first cap:Array Value) (w:World),(Instr.makeFunc fn first cap).run Tryz.prog w=.ok (.func fn first cap) w:=fun _ _ _ _=>rfl
 obtain ⟨-,-,-,-,-,-,-,c7,c8,c9⟩:=h.cells
 have z8:=h.frozen 8
 have z9:=h.frozen 9
 have hlt:=h.lt
 have H:=hI h
 have HC:=hI hc
 have HOK:=hI hok
 have harm:=hok.arm
 by_cases hoff:d.arm=1
 ·have HO:Hid (offC d=20):=by show _=_;unfold offC DK.off;rw [if_pos (by simpa using hoff)]
  have HP:Hid (qby d f={ (({ d with arm:=0,dead:=true }:DK).put f ⟨(d.get f).s,(d.get f).safe,true⟩) with ops:=d.ops + 1 }):=by
   show _=_
   obtain ⟨hf,-⟩:=hc
   have hb:d.off=true:=by unfold DK.off;simpa using hoff
   rcases hf with rfl | rfl <;> simp [qby,hb,DK.goes,DK.put,DK.get,hoff]
  have hoff':((d.arm:Int) == 1)=true:=by simp;omega
  have HT:=hI (fun (W:World)=>qdc 20 W (by omega))
  have HOK1:Hid ({ d with arm:=0,dead:=true }:DK).ok:=⟨hok.a,hok.b,hok.fit,hok.one,hok.room,Nat.zero_le _⟩
  clear h hc hok hoff
  go_enter_defers Tryz.func91,Tryz.ntmps91
  go_wp2
  go_region
  have D1:Hid (DAt ((((w.setCell ⟨g,8,none⟩ (.int .i64 0)).setCell ⟨g,9,none⟩ (.bool true)).alloc (.cells #[.pointer (some ⟨g,0,none⟩)] 25)).drew) g { d with arm:=0,dead:=true }):=by
   have D0:DAt ((w.setCell ⟨g,8,none⟩ (.int .i64 0)).setCell ⟨g,9,none⟩ (.bool true)) g { d with arm:=0,dead:=true }:=(H.out.arm 0).dead true
   exact (D0.below (bel1 _ _)).drew
  have B1:Hid (But g w ((((w.setCell ⟨g,8,none⟩ (.int .i64 0)).setCell ⟨g,9,none⟩ (.bool true)).alloc (.cells #[.pointer (some ⟨g,0,none⟩)] 25)).drew)):=((((But.refl g w).set 8 _).set 9 _).alloc _).drew
  have X1:Hid (((((w.setCell ⟨g,8,none⟩ (.int .i64 0)).setCell ⟨g,9,none⟩ (.bool true)).alloc (.cells #[.pointer (some ⟨g,0,none⟩)] 25)).drew).cell? ⟨w.heap.size,0,none⟩=some (.pointer (some ⟨g,0,none⟩))):=qjc (by simp [World.setCell])
  generalize (((w.setCell ⟨g,8,none⟩ (.int .i64 0)).setCell ⟨g,9,none⟩ (.bool true)).alloc (.cells #[.pointer (some ⟨g,0,none⟩)] 25)).drew=W1 at D1 B1 X1 ⊢
  go_wp2_with (go_at_call 105;refine (qwt _ g f p q W1 D1.out (HC.out.but B1.out)).mono ?_;rintro _ w2 ⟨rfl,hd2,hb2⟩;have D2:=hI hd2;have B2:=hI (B1.out.trans hb2);have X2:=hI ((hb2.cell (qan X1.out) (Nat.ne_of_gt hlt)).trans X1.out);clear hd2 hb2)
  go_wp2_with (go_at_call 32;refine (HT.out _).mono ?_;rintro e w3 ⟨v,rfl,hch,hb3⟩;have HCH:=hI hch;have B3:=hI (B2.out.trans (But.of hb3));have D3:=hI (D2.out.below hb3);have X3:=hI ((hb3.cell (qan X2.out)).trans X2.out);clear hch hb3)
  refine leaves_cons (f:=128) (args:=#[.pointer (some ⟨w.heap.size,0,none⟩)]) (by simp) (by simp [go_sem]) ?_
  refine (qdi _ g w.heap.size .returning w3 D3.out d.ops (qge _ _ _) ho X3.out).mono ?_
  rintro e u' w'' ⟨rfl,rfl,rfl⟩
  have D4:DAt (w3.setCell ⟨g,7,none⟩ (.int .i64 ((d.ops:Int) + 1))) g (qby d f):=by rw [HP.out];exact D3.out.ops (d.ops + 1)
  exact ⟨_,results_tmp rfl _ _ _,by rw [HO.out];exact qez (by decide) (HCH.out.but ((But.refl g w3).set 7 _) D3.out.noFlt),D4,B3.out.set 7 _⟩
 ·have HO:Hid (offC d=0):=by show _=_;unfold offC DK.off;rw [if_neg (by simpa using hoff)]
  have HP:Hid (qby d f={ (({ d with arm:=d.arm - 1 }:DK).put f zF) with ops:=d.ops + 1 }):=by
   show _=_
   obtain ⟨hf,-⟩:=hc
   have hb:d.off=false:=by unfold DK.off;simpa using hoff
   rcases hf with rfl | rfl <;> simp [qby,hb,DK.goes,DK.put,hoff]
  have hoff':((d.arm:Int) == 1)=false:=by simp;omega
  have HOK1:Hid ({ d with arm:=d.arm - 1 }:DK).ok:=⟨hok.a,hok.b,hok.fit,hok.one,hok.room,by show d.arm - 1≤1000000;omega⟩
  obtain ⟨m,hm⟩:∃ m:Nat,d.arm - 1=m:=⟨_,rfl⟩
  have hmx:max ((d.arm:Int) - 1) 0=(m:Int):=by omega
  rw [hm] at HOK1 HP
  clear h hc hok hm
  go_enter_defers Tryz.func91,Tryz.ntmps91
  go_wp2
  go_region
  have D1:Hid (DAt (((w.setCell ⟨g,8,none⟩ (.int .i64 (m:Int))).alloc (.cells #[.pointer (some ⟨g,0,none⟩)] 25)).drew) g { d with arm:=m }):=((H.out.arm m).below (bel1 _ _)).drew
  have B1:Hid (But g w (((w.setCell ⟨g,8,none⟩ (.int .i64 (m:Int))).alloc (.cells #[.pointer (some ⟨g,0,none⟩)] 25)).drew)):=(((But.refl g w).set 8 _).alloc _).drew
  have X1:Hid ((((w.setCell ⟨g,8,none⟩ (.int .i64 (m:Int))).alloc (.cells #[.pointer (some ⟨g,0,none⟩)] 25)).drew).cell? ⟨w.heap.size,0,none⟩=some (.pointer (some ⟨g,0,none⟩))):=qjc (by simp [World.setCell])
  generalize ((w.setCell ⟨g,8,none⟩ (.int .i64 (m:Int))).alloc (.cells #[.pointer (some ⟨g,0,none⟩)] 25)).drew=W1 at D1 B1 X1 ⊢
  go_wp2_with (go_at_call 104;refine (qws _ g f p q W1 D1.out (HC.out.but B1.out)).mono ?_;rintro _ w2 ⟨rfl,hd2,hb2⟩;have D2:=hI hd2;have B2:=hI (B1.out.trans hb2);have X2:=hI ((hb2.cell (qan X1.out) (Nat.ne_of_gt hlt)).trans X1.out);clear hd2 hb2)
  refine leaves_cons (f:=128) (args:=#[.pointer (some ⟨w.heap.size,0,none⟩)]) (by simp) (by simp [go_sem]) ?_
  refine (qdi _ g w.heap.size .returning w2 D2.out d.ops (qge _ _ _) ho X2.out).mono ?_
  rintro e u' w'' ⟨rfl,rfl,rfl⟩
  have D4:DAt (w2.setCell ⟨g,7,none⟩ (.int .i64 ((d.ops:Int) + 1))) g (qby d f):=by rw [HP.out];exact D2.out.ops (d.ops + 1)
  exact ⟨_,results_tmp rfl _ _ _,by rw [HO.out];exact qpv _,D4,B2.out.set 7 _⟩
end Go.Proofs.YtjkecckndfcbjaaGreatDoor
namespace Go.Proofs.YtjkecckndfcbjaaGreatDoor
open Go.RowKit
set_option maxRecDepth 100000
def appQ (d:DK) (f:Int) (s:ByteArray):DK×Nat:=if d.up f≠0 then (d,d.up f) else if d.room < d.f0.s.size + d.f1.s.size + s.size then (d,22) else (appD d f.toNat s,offC d)
def qca (d:DK) (f:Int):DK×Nat:=if d.up f≠0 then (d,d.up f) else (qfq d f.toNat,offC d)
def qbf (d:DK) (f:Int):DK×Nat:=if d.up f≠0 then (d,d.up f) else (qby d f.toNat,offC d)
theorem qnn {d:DK} {f:Int} (h:d.up f=0):d.dead=false∧∃ k:Nat,(k=0∨k=1)∧f=(k:Int):=by
 unfold DK.up at h
 split at h
 ·cases h
 ·rename_i h1
  split at h
  ·cases h
  ·rename_i h2
   exact ⟨by simpa using h1,f.toNat,by omega,by omega⟩
theorem qua (d:DK) (f:Int):d.up f≤100:=by unfold DK.up;split <;> (try split) <;> omega
def DskP (g:Nat) (x:DK×Nat) (w:World) (e:Ending) (w':World):Prop:=ErD x.2 e w'∧DAt w' g x.1∧But g w w'
theorem app_room {d:DK} (hok:d.ok):d.f0.s.size≤1000000∧d.f1.s.size≤1000000∧d.room≤1000000:=by
 have:=hok.fit
 have:=hok.room
 exact ⟨by omega,by omega,by omega⟩
theorem CapF.drew {w:World} {g f p q:Nat} (h:CapF w g f p q):CapF w.drew g f p q:=⟨h.hf,h.p0,h.q0,h.pg,h.qg⟩
set_option maxHeartbeats 2000000 in
theorem qip (d:DK) (g:Nat) (f:Int) (s:ByteArray) (w:World) (h:DAt w g d) (hok:d.ok) (ho:d.ops≤1000000000) (hs:s.size≤2000000000) :
 Calls Tryz.prog 61 #[.pointer (some ⟨g,0,none⟩),.int .i64 f,.string s] w (DskP g (appQ d f s) w):=by
 have hmf:∀ (fn:Fn) (first cap:Array Value) (w:World),(Instr.makeFunc fn first cap).run Tryz.prog w=.ok (.func fn first cap) w:=fun _ _ _ _=>rfl
 have H1:=hI (fun W (hb:Below w.heap.size w W)=>qql d g f W (h.below hb) hok.one)
 have H:=hI h
 have HOK:=hI hok
 have hlt:=h.lt
 have HB:Hid (Below w.heap.size w (((w.alloc (.cells #[.pointer (some ⟨g,0,none⟩)] 25)).alloc (.cells #[.int .i64 f] 3)).alloc (.cells #[.string s] 9))):=(((bel1 w _).alloc (by simp) _).alloc (by simp;omega) _)
 have hfew:=qua d f
 by_cases hu:d.up f=0
 ·obtain ⟨hdd,k,hk,hf⟩:=qnn hu
  have hkt:f.toNat=k:=by omega
  rw [hu] at H1
  subst hf
  have c0:((((w.alloc (.cells #[.pointer (some ⟨g,0,none⟩)] 25)).alloc (.cells #[.int .i64 (k:Int)] 3)).alloc (.cells #[.string s] 9))).cell? ⟨w.heap.size,0,none⟩=some (.pointer (some ⟨g,0,none⟩)):=by rw [World.cell?_alloc_lt _ _ _ (by simp;omega)];simp
  have c1:((((w.alloc (.cells #[.pointer (some ⟨g,0,none⟩)] 25)).alloc (.cells #[.int .i64 (k:Int)] 3)).alloc (.cells #[.string s] 9))).cell? ⟨w.heap.size + 1,0,none⟩=some (.int .i64 (k:Int)):=by rw [World.cell?_alloc_lt _ _ _ (by simp)];simp
  have HCF:Hid (CapF ((((w.alloc (.cells #[.pointer (some ⟨g,0,none⟩)] 25)).alloc (.cells #[.int .i64 (k:Int)] 3)).alloc (.cells #[.string s] 9))) g k w.heap.size (w.heap.size + 1)):=⟨hk,c0,c1,by omega,by omega⟩
  have H2:=hI (show (((w.alloc (.cells #[.pointer (some ⟨g,0,none⟩)] 25)).alloc (.cells #[.int .i64 (k:Int)] 3)).alloc (.cells #[.string s] 9)).cell? ⟨w.heap.size + 1 + 1,0,none⟩=some (.string s) by exact qjc (W:=((w.alloc (.cells #[.pointer (some ⟨g,0,none⟩)] 25)).alloc (.cells #[.int .i64 (k:Int)] 3))) (by simp))
  obtain ⟨r1,r2,r3⟩:=app_room hok
  obtain ⟨b0,-,-,b3,-,-,b6,-,-,-⟩:=(h.below HB.out).cells
  by_cases hfull:d.room < d.f0.s.size + d.f1.s.size + s.size
  ·have HQ:Hid (appQ d (k:Int) s=(d,22)):=by show _=_;unfold appQ;rw [if_neg (by omega),if_pos hfull]
   rw [HQ.out]
   have hfull':(d.room:Int) - (d.f0.s.size:Int) - (d.f1.s.size:Int) < (s.size:Int):=by omega
   have HT:=hI (fun (W:World)=>qdc 22 W (by omega))
   have HBD:=hI (Below.drew HB.out)
   clear h hok hfew HQ hu hfull hkt HCF
   go_enter Tryz.func61,Tryz.ntmps61
   go_wp2_with (go_at_call 52;refine (H1.out _ HB.out).mono ?_;rintro _ _ ⟨rfl,rfl⟩)
   go_region
   go_wp2_with (go_at_call 32;refine (HT.out _).mono ?_;rintro e w3 ⟨v,rfl,hch,hb3⟩;have HCH:=hI hch;have HB3:=hI (qad HBD.out hb3);clear hch hb3)
   go_ret
   exact ⟨qez (c:=22) (by decide) HCH.out,H.out.below HB3.out,But.of HB3.out⟩
  ·have HQ:Hid (appQ d (k:Int) s=(appD d k s,offC d)):=by show _=_;unfold appQ;rw [if_neg (by omega),if_neg hfull];rfl
   rw [HQ.out]
   have hfull':decide ((d.room:Int) - (d.f0.s.size:Int) - (d.f1.s.size:Int) < (s.size:Int))=false:=decide_eq_false (by omega)
   have HOP:=hI (opA_any d g k w.heap.size (w.heap.size + 1) (w.heap.size + 1 + 1) s _ (H.out.below HB.out).drew hok ho HCF.out.drew hs H2.out (by omega))
   clear h hok hfew HQ hu hfull hkt
   go_enter Tryz.func61,Tryz.ntmps61
   go_wp2_with (go_at_call 52;refine (H1.out _ HB.out).mono ?_;rintro _ _ ⟨rfl,rfl⟩)
   go_region
   go_wp2_with (go_at_call 91;refine HOP.out.mono ?_;rintro e w3 ⟨⟨v,rfl,hv⟩,hd3,hb3⟩;have HV:=hI hv;have HD3:=hI hd3;have HB3:=hI ((But.of HB.out).drew.trans hb3);clear hv hd3 hb3)
   go_ret
   exact ⟨⟨_,rfl,HV.out⟩,HD3.out,HB3.out⟩
 ·have HQ:Hid (appQ d f s=(d,d.up f)):=by show _=_;unfold appQ;rw [if_pos hu]
  rw [HQ.out]
  have hu':(((d.up f:Nat):Int) != 0)=true:=by simp;omega
  have HT:=hI (fun (W:World)=>qdc (d.up f:Int) W (by omega))
  generalize d.up f=u at H1 HT hu hu' ⊢
  clear h hok hfew HQ
  go_enter Tryz.func61,Tryz.ntmps61
  go_wp2_with (first | (go_at_call 52;refine (H1.out _ HB.out).mono ?_;rintro _ _ ⟨rfl,rfl⟩) | (go_at_call 32;refine (HT.out _).mono ?_;rintro e w3 ⟨v,rfl,hch,hb3⟩;have HCH:=hI hch;have HB3:=hI (qad HB.out hb3);clear hch hb3))
  go_ret
  exact ⟨qez hu HCH.out,H.out.below HB3.out,But.of HB3.out⟩
set_option maxHeartbeats 2000000 in
theorem qno (d:DK) (g:Nat) (f:Int) (w:World) (h:DAt w g d) (hok:d.ok) (ho:d.ops≤1000000000) :
 Calls Tryz.prog 63 #[.pointer (some ⟨g,0,none⟩),.int .i64 f] w (DskP g (qca d f) w):=by
 have hmf:∀ (fn:Fn) (first cap:Array Value) (w:World),(Instr.makeFunc fn first cap).run Tryz.prog w=.ok (.func fn first cap) w:=fun _ _ _ _=>rfl
 have H1:=hI (fun W (hb:Below w.heap.size w W)=>qql d g f W (h.below hb) hok.one)
 have H:=hI h
 have HOK:=hI hok
 have hlt:=h.lt
 have HB:Hid (Below w.heap.size w ((w.alloc (.cells #[.pointer (some ⟨g,0,none⟩)] 25)).alloc (.cells #[.int .i64 f] 3))):=((bel1 w _).alloc (by simp) _)
 have hfew:=qua d f
 by_cases hu:d.up f=0
 ·obtain ⟨hdd,k,hk,hf⟩:=qnn hu
  have hkt:f.toNat=k:=by omega
  rw [hu] at H1
  subst hf
  have c0:(((w.alloc (.cells #[.pointer (some ⟨g,0,none⟩)] 25)).alloc (.cells #[.int .i64 (k:Int)] 3))).cell? ⟨w.heap.size,0,none⟩=some (.pointer (some ⟨g,0,none⟩)):=by simp
  have c1:(((w.alloc (.cells #[.pointer (some ⟨g,0,none⟩)] 25)).alloc (.cells #[.int .i64 (k:Int)] 3))).cell? ⟨w.heap.size + 1,0,none⟩=some (.int .i64 (k:Int)):=by simp
  have HCF:Hid (CapF (((w.alloc (.cells #[.pointer (some ⟨g,0,none⟩)] 25)).alloc (.cells #[.int .i64 (k:Int)] 3))) g k w.heap.size (w.heap.size + 1)):=⟨hk,c0,c1,by omega,by omega⟩
  have HQ:Hid (qca d (k:Int)=(qfq d k,offC d)):=by show _=_;unfold qca;rw [if_neg (by omega)];rfl
  rw [HQ.out]
  have HOP:=hI (opS_any d g k w.heap.size (w.heap.size + 1) _ (H.out.below HB.out) hok ho HCF.out)
  clear h hok hfew HQ hu hkt
  go_enter Tryz.func63,Tryz.ntmps63
  go_wp2_with (first | (go_at_call 52;refine (H1.out _ HB.out).mono ?_;rintro _ _ ⟨rfl,rfl⟩) | (go_at_call 91;refine HOP.out.mono ?_;rintro e w3 ⟨⟨v,rfl,hv⟩,hd3,hb3⟩;have HV:=hI hv;have HD3:=hI hd3;have HB3:=hI ((But.of HB.out).trans hb3);clear hv hd3 hb3))
  go_ret
  exact ⟨⟨_,rfl,HV.out⟩,HD3.out,HB3.out⟩
 ·have HQ:Hid (qca d f=(d,d.up f)):=by show _=_;unfold qca;rw [if_pos hu]
  rw [HQ.out]
  have hu':(((d.up f:Nat):Int) != 0)=true:=by simp;omega
  have HT:=hI (fun (W:World)=>qdc (d.up f:Int) W (by omega))
  generalize d.up f=u at H1 HT hu hu' ⊢
  clear h hok hfew HQ
  go_enter Tryz.func63,Tryz.ntmps63
  go_wp2_with (first | (go_at_call 52;refine (H1.out _ HB.out).mono ?_;rintro _ _ ⟨rfl,rfl⟩) | (go_at_call 32;refine (HT.out _).mono ?_;rintro e w3 ⟨v,rfl,hch,hb3⟩;have HCH:=hI hch;have HB3:=hI (qad HB.out hb3);clear hch hb3))
  go_ret
  exact ⟨qez hu HCH.out,H.out.below HB3.out,But.of HB3.out⟩
set_option maxHeartbeats 2000000 in
theorem qpw (d:DK) (g:Nat) (f:Int) (w:World) (h:DAt w g d) (hok:d.ok) (ho:d.ops≤1000000000) :
 Calls Tryz.prog 68 #[.pointer (some ⟨g,0,none⟩),.int .i64 f] w (DskP g (qbf d f) w):=by
 have hmf:∀ (fn:Fn) (first cap:Array Value) (w:World),(Instr.makeFunc fn first cap).run Tryz.prog w=.ok (.func fn first cap) w:=fun _ _ _ _=>rfl
 have H1:=hI (fun W (hb:Below w.heap.size w W)=>qql d g f W (h.below hb) hok.one)
 have H:=hI h
 have HOK:=hI hok
 have hlt:=h.lt
 have HB:Hid (Below w.heap.size w ((w.alloc (.cells #[.pointer (some ⟨g,0,none⟩)] 25)).alloc (.cells #[.int .i64 f] 3))):=((bel1 w _).alloc (by simp) _)
 have hfew:=qua d f
 by_cases hu:d.up f=0
 ·obtain ⟨hdd,k,hk,hf⟩:=qnn hu
  have hkt:f.toNat=k:=by omega
  rw [hu] at H1
  subst hf
  have c0:(((w.alloc (.cells #[.pointer (some ⟨g,0,none⟩)] 25)).alloc (.cells #[.int .i64 (k:Int)] 3))).cell? ⟨w.heap.size,0,none⟩=some (.pointer (some ⟨g,0,none⟩)):=by simp
  have c1:(((w.alloc (.cells #[.pointer (some ⟨g,0,none⟩)] 25)).alloc (.cells #[.int .i64 (k:Int)] 3))).cell? ⟨w.heap.size + 1,0,none⟩=some (.int .i64 (k:Int)):=by simp
  have HCF:Hid (CapF (((w.alloc (.cells #[.pointer (some ⟨g,0,none⟩)] 25)).alloc (.cells #[.int .i64 (k:Int)] 3))) g k w.heap.size (w.heap.size + 1)):=⟨hk,c0,c1,by omega,by omega⟩
  have HQ:Hid (qbf d (k:Int)=(qby d k,offC d)):=by show _=_;unfold qbf;rw [if_neg (by omega)];rfl
  rw [HQ.out]
  have HOP:=hI (opR_any d g k w.heap.size (w.heap.size + 1) _ (H.out.below HB.out) hok ho HCF.out)
  clear h hok hfew HQ hu hkt
  go_enter Tryz.func68,Tryz.ntmps68
  go_wp2_with (first | (go_at_call 52;refine (H1.out _ HB.out).mono ?_;rintro _ _ ⟨rfl,rfl⟩) | (go_at_call 91;refine HOP.out.mono ?_;rintro e w3 ⟨⟨v,rfl,hv⟩,hd3,hb3⟩;have HV:=hI hv;have HD3:=hI hd3;have HB3:=hI ((But.of HB.out).trans hb3);clear hv hd3 hb3))
  go_ret
  exact ⟨⟨_,rfl,HV.out⟩,HD3.out,HB3.out⟩
 ·have HQ:Hid (qbf d f=(d,d.up f)):=by show _=_;unfold qbf;rw [if_pos hu]
  rw [HQ.out]
  have hu':(((d.up f:Nat):Int) != 0)=true:=by simp;omega
  have HT:=hI (fun (W:World)=>qdc (d.up f:Int) W (by omega))
  generalize d.up f=u at H1 HT hu hu' ⊢
  clear h hok hfew HQ
  go_enter Tryz.func68,Tryz.ntmps68
  go_wp2_with (first | (go_at_call 52;refine (H1.out _ HB.out).mono ?_;rintro _ _ ⟨rfl,rfl⟩) | (go_at_call 32;refine (HT.out _).mono ?_;rintro e w3 ⟨v,rfl,hch,hb3⟩;have HCH:=hI hch;have HB3:=hI (qad HB.out hb3);clear hch hb3))
  go_ret
  exact ⟨qez hu HCH.out,H.out.below HB3.out,But.of HB3.out⟩
end Go.Proofs.YtjkecckndfcbjaaGreatDoor
namespace Go.Proofs.YtjkecckndfcbjaaGreatDoor
open Go.RowKit
set_option maxRecDepth 100000
theorem qas (w:World) (o:Obj):(w.alloc o).heap[w.heap.size]?=some o:=by
 show (w.heap.push o)[w.heap.size]?=_
 simp
def freshD (room:Nat):DK:=⟨zF,zF,room,0,0,false⟩
theorem qpx (n:Nat) (w:World) (h1:1≤n) (h2:n≤1000000) :
 Calls Tryz.prog 8 #[.int .i64 (n:Int)] w fun e w'=>∃ g,w.heap.size≤g∧e=.returned (.tuple #[.pointer (some ⟨g,0,none⟩),.nilIface])∧DAt w' g (freshD n)∧Below w.heap.size w w':=by
 have k1:1≤(n:Int):=by omega
 have k2:(n:Int)≤1000000:=by omega
 have k3:decide ((n:Int) < 1)=false:=decide_eq_false (by omega)
 clear h1 h2
 go_enter Tryz.func8,Tryz.ntmps8
 go_wp2
 refine bodyPost_ret (v:=.tuple #[.pointer (some ⟨w.heap.size,0,none⟩),.nilIface]) (by simp [results,Tryz.results8,go_sem]) rfl ⟨w.heap.size,Nat.le_refl _,rfl,?_,bel1 w _⟩
 exact qas w _
def qcu (d:DK) (f:Int):ByteArray×Nat:=if d.up f≠0 then (⟨#[]⟩,d.up f) else ((d.get f.toNat).s,0)
theorem qgm (d:DK) (g:Nat) (f:Int) (w:World) (h:DAt w g d) (hok:d.ok) :
 Calls Tryz.prog 33 #[.pointer (some ⟨g,0,none⟩),.int .i64 f] w fun e w'=>∃ v,e=.returned (.tuple #[.string (qcu d f).1,v])∧ErrV w' (if (qcu d f).2=0 then [] else [qhv]) ((qcu d f).2:Int) v∧Below w.heap.size w w':=by
 have H1:=hI (qql d g f w h hok.one)
 have hfew:=qua d f
 by_cases hu:d.up f=0
 ·obtain ⟨hdd,k,hk,hf⟩:=qnn hu
  have hkt:f.toNat=k:=by omega
  have HQ:Hid (qcu d f=((d.get k).s,0)):=by show _=_;unfold qcu;rw [if_neg (by omega),hkt]
  rw [HQ.out]
  rw [hu] at H1
  subst hf
  obtain ⟨c0,-,-,c3,-,-,-,-,-,-⟩:=h.cells
  clear h hok hfew hu hkt HQ
  rcases hk with rfl | rfl
  all_goals
   go_enter Tryz.func33,Tryz.ntmps33
   go_wp2_with (go_at_call 52;refine H1.out.mono ?_;rintro _ _ ⟨rfl,rfl⟩)
  ·refine bodyPost_ret (v:=.tuple #[.string d.f0.s,.nilIface]) (by simp [results,Tryz.results33,go_sem]) rfl ⟨_,rfl,Or.inl ⟨rfl,rfl,rfl⟩,Below.refl _ _⟩
  ·refine bodyPost_ret (v:=.tuple #[.string d.f1.s,.nilIface]) (by simp [results,Tryz.results33,go_sem]) rfl ⟨_,rfl,Or.inl ⟨rfl,rfl,rfl⟩,Below.refl _ _⟩
 ·have HQ:Hid (qcu d f=(⟨#[]⟩,d.up f)):=by show _=_;unfold qcu;rw [if_pos hu]
  rw [HQ.out]
  have hu':(((d.up f:Nat):Int) != 0)=true:=by simp;omega
  have HT:=hI (fun (W:World)=>qdc (d.up f:Int) W (by omega))
  generalize d.up f=u at H1 HT hu hu' ⊢
  clear h hok hfew HQ
  go_enter Tryz.func33,Tryz.ntmps33
  go_wp2_with (first | (go_at_call 52;refine H1.out.mono ?_;rintro _ _ ⟨rfl,rfl⟩) | (go_at_call 32;refine (HT.out _).mono ?_;rintro e w3 ⟨v,rfl,hch,hb3⟩;have HCH:=hI hch;have HB3:=hI hb3;clear hch hb3))
  refine bodyPost_ret (v:=.tuple #[.string ⟨#[]⟩,v]) (by simp [results,Tryz.results33,go_sem]) rfl ⟨v,rfl,Or.inr ⟨by show (u:Int)≠0;omega,by first | exact HCH.out | (rw [if_neg hu];exact HCH.out)⟩,HB3.out⟩
theorem qmc (d:DK) (g k:Nat) (w:World) (h:DAt w g d) (hok:d.ok) (hk:k=0∨k=1) :
 Calls Tryz.prog 49 #[.pointer (some ⟨g,0,none⟩),.int .i64 (k:Int)] w fun e w'=>e=.returned (.int .i64 ((d.get k).safe:Int))∧w=w':=by
 have HM:=hI (qgo d g w h hok.one)
 obtain ⟨-,c1,-,-,c4,-,-,-,-,-⟩:=h.cells
 clear h hok
 rcases hk with rfl | rfl
 all_goals
  go_enter Tryz.func49,Tryz.ntmps49
  go_wp2_with (go_at_call 57;refine HM.out.mono ?_;rintro _ _ ⟨rfl,rfl⟩)
  go_ret
  exact ⟨rfl,rfl⟩
theorem dead_any (d:DK) (g:Nat) (w:World) (h:DAt w g d) (hok:d.ok) :
 Calls Tryz.prog 50 #[.pointer (some ⟨g,0,none⟩)] w fun e w'=>e=.returned (.bool d.dead)∧w=w':=by
 have HM:=hI (qgo d g w h hok.one)
 obtain ⟨-,-,-,-,-,-,-,-,-,c9⟩:=h.cells
 clear h hok
 generalize d.dead=b at c9 ⊢
 cases b
 all_goals
  go_enter Tryz.func50,Tryz.ntmps50
  go_wp2_with (go_at_call 57;refine HM.out.mono ?_;rintro _ _ ⟨rfl,rfl⟩)
  go_ret
  exact ⟨rfl,rfl⟩
theorem ops_any (d:DK) (g:Nat) (w:World) (h:DAt w g d) (hok:d.ok) :
 Calls Tryz.prog 51 #[.pointer (some ⟨g,0,none⟩)] w fun e w'=>e=.returned (.int .i64 (d.ops:Int))∧w=w':=by
 have HM:=hI (qgo d g w h hok.one)
 obtain ⟨-,-,-,-,-,-,-,c7,-,-⟩:=h.cells
 clear h hok
 go_enter Tryz.func51,Tryz.ntmps51
 go_wp2_with (go_at_call 57;refine HM.out.mono ?_;rintro _ _ ⟨rfl,rfl⟩)
 go_ret
 exact ⟨rfl,rfl⟩
def armQ (d:DK) (k:Int):DK×Nat:=if d.dead then (d,20) else if k < 1∨1000000 < k then (d,2) else ({ d with arm:=k.toNat },0)
theorem arm_any (d:DK) (g:Nat) (k:Int) (w:World) (h:DAt w g d) (hok:d.ok) :
 Calls Tryz.prog 19 #[.pointer (some ⟨g,0,none⟩),.int .i64 k] w (DskP g (armQ d k) w):=by
 have H1:=hI (qql d g 0 w h hok.one)
 have H:=hI h
 have HT2:=hI (fun (W:World)=>qdc 2 W (by omega))
 have HT20:=hI (fun (W:World)=>qdc 20 W (by omega))
 cases hd:d.dead
 ·have hu:d.up 0=0:=by unfold DK.up;rw [hd];rfl
  rw [hu] at H1
  by_cases hk:k < 1∨1000000 < k
  ·have HQ:Hid (armQ d k=(d,2)):=by show _=_;unfold armQ;rw [if_neg (by rw [hd];simp),if_pos hk]
   rw [HQ.out]
   clear h hok HQ hu hd
   by_cases hk1:k < 1
   ·clear hk
    go_enter Tryz.func19,Tryz.ntmps19
    go_wp2_with (first | (go_at_call 52;refine H1.out.mono ?_;rintro _ _ ⟨rfl,rfl⟩) | (go_at_call 32;refine (HT2.out _).mono ?_;rintro e w3 ⟨v,rfl,hch,hb3⟩;have HCH:=hI hch;have HB3:=hI hb3;clear hch hb3))
    go_ret
    exact ⟨qez (c:=2) (by decide) HCH.out,H.out.below HB3.out,But.of HB3.out⟩
   ·have hk2:1000000 < k:=by omega
    have hk3:decide (k < 1)=false:=decide_eq_false hk1
    clear hk
    go_enter Tryz.func19,Tryz.ntmps19
    go_wp2_with (first | (go_at_call 52;refine H1.out.mono ?_;rintro _ _ ⟨rfl,rfl⟩) | (go_at_call 32;refine (HT2.out _).mono ?_;rintro e w3 ⟨v,rfl,hch,hb3⟩;have HCH:=hI hch;have HB3:=hI hb3;clear hch hb3))
    go_ret
    exact ⟨qez (c:=2) (by decide) HCH.out,H.out.below HB3.out,But.of HB3.out⟩
  ·obtain ⟨n,hn,hkn⟩:∃ n:Nat,k.toNat=n∧k=(n:Int):=⟨k.toNat,rfl,by omega⟩
   have HQ:Hid (armQ d k=({ d with arm:=n },0)):=by show _=_;unfold armQ;rw [if_neg (by rw [hd];simp),if_neg hk,hn]
   rw [HQ.out]
   subst hkn
   obtain ⟨-,-,-,-,-,-,-,-,c8,-⟩:=h.cells
   have z8:=h.frozen 8
   have k1:decide ((n:Int) < 1)=false:=decide_eq_false (by omega)
   have k2:decide (1000000 < (n:Int))=false:=decide_eq_false (by omega)
   clear h hok HQ hu hd hk hn
   go_enter Tryz.func19,Tryz.ntmps19
   go_wp2_with (go_at_call 52;refine H1.out.mono ?_;rintro _ _ ⟨rfl,rfl⟩)
   go_ret
   exact ⟨qpv _,H.out.arm n,(But.refl g w).set 8 _⟩
 ·have hu:d.up 0=20:=by unfold DK.up;rw [hd];rfl
  rw [hu] at H1
  have HQ:Hid (armQ d k=(d,20)):=by show _=_;unfold armQ;rw [if_pos hd]
  rw [HQ.out]
  clear h hok HQ hu hd
  go_enter Tryz.func19,Tryz.ntmps19
  go_wp2_with (first | (go_at_call 52;refine H1.out.mono ?_;rintro _ _ ⟨rfl,rfl⟩) | (go_at_call 32;refine (HT20.out _).mono ?_;rintro e w3 ⟨v,rfl,hch,hb3⟩;have HCH:=hI hch;have HB3:=hI hb3;clear hch hb3))
  go_ret
  exact ⟨qez (c:=20) (by decide) HCH.out,H.out.below HB3.out,But.of HB3.out⟩
theorem off_any (d:DK) (g:Nat) (w:World) (h:DAt w g d) (hok:d.ok) :
 Calls Tryz.prog 22 #[.pointer (some ⟨g,0,none⟩)] w (DskP g ({ d with dead:=true },0) w):=by
 have HM:=hI (qgo d g w h hok.one)
 have H:=hI h
 obtain ⟨-,-,-,-,-,-,-,-,-,c9⟩:=h.cells
 have z9:=h.frozen 9
 clear h hok
 go_enter Tryz.func22,Tryz.ntmps22
 go_wp2_with (go_at_call 57;refine HM.out.mono ?_;rintro _ _ ⟨rfl,rfl⟩)
 go_ret
 exact ⟨qpv _,H.out.dead true,(But.refl g w).set 9 _⟩
end Go.Proofs.YtjkecckndfcbjaaGreatDoor
namespace Go.Proofs.YtjkecckndfcbjaaGreatDoor
open Go.RowKit Go.Sort Go.Lib
def hasT (k:Int):List UInt8:=if k=1∨k=5 then [105,116,99] else if k=2 then [105,116] else if k=3 then [105,116,98,99] else if k=4∨k=8 then [105,98] else if k=6 then [105,98,99] else if k=7 then [105,116,98,97] else if k=9 then [105,99] else if k=10 then [112] else []
theorem hasT_len (k:Int):(hasT k).length≤4:=by unfold hasT;(repeat' split) <;> simp
theorem qsd {a b:ByteArray} (h:a=b):Ending.returned (.string a)=.returned (.string b):=by rw [h]
set_option maxRecDepth 100000 in
set_option maxHeartbeats 2000000 in
theorem qub (k:Int) (w:World) :
 Calls Tryz.prog 169 #[.int .i64 k] w fun e w'=>e=.returned (.string ⟨(hasT k).toArray⟩)∧Below w.heap.size w w':=by
 by_cases h0:k < 1
 ·have HT:Hid (hasT k=[]):=by show _=_;unfold hasT;(repeat' rw [if_neg (by omega)])
  go_enter Tryz.func169,Tryz.ntmps169
  go_wp2
  go_ret
  exact ⟨qsd (by rw [HT.out]),bel1 w _⟩
 ·by_cases h1:10 < k
  ·have HT:Hid (hasT k=[]):=by show _=_;unfold hasT;(repeat' rw [if_neg (by omega)])
   have h0':decide (k < 1)=false:=by simp;omega
   clear h0
   go_enter Tryz.func169,Tryz.ntmps169
   go_wp2
   go_ret
   exact ⟨qsd (by rw [HT.out]),bel1 w _⟩
  ·have:k=1∨k=2∨k=3∨k=4∨k=5∨k=6∨k=7∨k=8∨k=9∨k=10:=by omega
   rcases this with rfl | rfl | rfl | rfl | rfl | rfl | rfl | rfl | rfl | rfl
   all_goals
    go_enter Tryz.func169,Tryz.ntmps169
    go_wp2
    go_ret
    exact ⟨qsd rfl,bel1 w _⟩
def hasB (k:Int) (c:Nat):Bool:=(hasT k).any fun x=>decide (x.toNat=c)
set_option maxRecDepth 100000 in
set_option maxHeartbeats 1000000 in
theorem qiq (k:Int) (c:Nat) (w:World) :
 Calls Tryz.prog 171 #[.int .i64 k,.int .u8 c] w fun e w'=>e=.returned (.bool (hasB k c))∧Below w.heap.size w w':=by
 have HH:=hI (qub k w)
 have hl:=hasT_len k
 obtain ⟨s,hs⟩:∃ s:ByteArray,s=⟨(hasT k).toArray⟩:=⟨_,rfl⟩
 rw [←hs] at HH
 have HD:Hid (s.data.toList=hasT k):=by
  have e0:s.data.toList=hasT k:=by rw [hs]
  exact e0
 have hsz:s.size≤4:=by
  have e1:s.size=s.data.toList.length:=by simp
  rw [e1,HD.out];exact hl
 clear hs hl
 go_enter Tryz.func171,Tryz.ntmps171
 go_wp2_with fail
 refine HH.out.mono ?_
 rintro e w1 ⟨rfl,hb1⟩
 have HB1:=hI hb1
 clear hb1
 go_wp2
 go_loop [6] (fun i=>∃ n:Nat,i=.int .i64 n∧n≤s.size∧Hid (hasB k c=(s.data.toList.drop n).any fun x=>decide (x.toNat=c))) (fun i=>s.size - (intOf i).toNat)
 case atStart=>exact ⟨0,rfl,Nat.zero_le _,by show _=_;rw [List.drop_zero,HD.out];rfl⟩
 case round =>
  obtain ⟨n,rfl,hn,hany⟩:=hrel
  by_cases hlt:n < s.size
  ·have nz:(n:Int) < (s.size:Int):=by omega
   have hdr:=qij s n hlt
   have gi:=fun (x:Nat) (hx:s[n].toNat=x)=>qkd s n hlt x hx (n:Int) rfl
   have HDR:=hI hdr
   obtain ⟨x,hx⟩:∃ x,s[n].toNat=x:=⟨_,rfl⟩
   have hix:=gi x hx
   have HX:=hI hx
   clear gi hdr hx
   have hxc:=beqI (x:Int) (c:Int)
   by_cases hc:x=c
   ·rw [show decide ((x:Int)=(c:Int))=true by simp [hc]] at hxc
    have HE:Hid (hasB k c=true):=by show _=_;rw [hany.out,HDR.out];simp [HX.out,hc]
    clear hc
    go_wp2
    go_ret
    exact ⟨qah HE.out.symm,HB1.out⟩
   ·rw [show decide ((x:Int)=(c:Int))=false by simp;omega] at hxc
    have HE:Hid (hasB k c=(s.data.toList.drop (n + 1)).any fun x=>decide (x.toNat=c)):=by show _=_;rw [hany.out,HDR.out];simp [HX.out,hc]
    clear hc
    go_wp2
    go_round
    case rel=>exact ⟨n + 1,by go_num,by omega,HE⟩
    case measure=>simp [intOf];omega
  ·have hlt':decide ((n:Int) < (s.size:Int))=false:=by simp;omega
   have HE:Hid (hasB k c=false):=by show _=_;rw [hany.out,List.drop_of_length_le (by simp;omega)];rfl
   go_wp2
   go_ret
   exact ⟨qah HE.out.symm,HB1.out⟩
def inB (f:Bool) (n lo hi:Int):Bool:=if f then decide (lo≤n∧n≤hi) else decide (n=0)
theorem in_any (f:Bool) (n lo hi:Int) (w:World) :
 Calls Tryz.prog 172 #[.bool f,.int .i64 n,.int .i64 lo,.int .i64 hi] w fun e w'=>e=.returned (.bool (inB f n lo hi))∧w=w':=by
 have hz:=beqI n 0
 cases f
 ·have HI:Hid (inB false n lo hi=decide (n=0)):=rfl
  go_enter Tryz.func172,Tryz.ntmps172
  go_wp2
  go_ret
  exact ⟨qah (by rw [HI.out]),rfl⟩
 ·have HI:Hid (inB true n lo hi=decide (lo≤n∧n≤hi)):=rfl
  go_enter Tryz.func172,Tryz.ntmps172
  go_wp2
  all_goals
   go_ret
   exact ⟨qah (by rw [HI.out];simp <;> omega),rfl⟩
def qir (id:Int):Int:=if okId id then id % 10 else 0
def seqN (id:Int):Int:=if okId id then id / 10 else 0
set_option maxHeartbeats 400000 in
theorem qmd (id:Int) (w:World) :
 Calls Tryz.prog 170 #[.int .i64 id] w fun e w'=>e=.returned (.tuple #[.int .i64 (qir id),.int .i64 (seqN id)])∧w=w':=by
 go_enter Tryz.func170,Tryz.ntmps170
 go_wp2
 all_goals
  go_ret2
  exact ⟨ret_int2 (by unfold qir okId;split <;> simp_all <;> omega) (by unfold seqN okId;split <;> simp_all <;> omega),rfl⟩
theorem qpy (id:Int):decide (0 < qir id)=okId id:=by
 unfold qir
 cases h:okId id
 ·simp
 ·unfold okId at h
  simp at h ⊢
  omega
end Go.Proofs.YtjkecckndfcbjaaGreatDoor
namespace Go.Proofs.YtjkecckndfcbjaaGreatDoor
open Go.RowKit Go.Sort Go.Lib
def proX (lo hi dn:Int) (ats:Array (Int×Int)) (mks:Array Int):Bool:=decide (0≤lo∧lo≤1000000∧0≤hi∧hi≤1000000∧lo≤hi∧0≤dn∧dn≤1000000∧mks.size≤9) && (attL hi lo ats.toList && decide (ats.size≤200)) && mksB mks
def MkR (d:Array Int) (iv:Value):Prop:=∃ k:Nat,iv=.int .i64 (k:Int)∧k≤d.size∧∀ j,j < k→qdd d[j]! = true
def AtR (lo hi:Int) (ats:Array (Int×Int)) (W0:World) (iv:Value) (wr:World):Prop:=∃ (k:Nat) (last:Int),iv=.int .i64 (k:Int)∧k≤ats.size∧(k=0→last=lo)∧(∀ j,j + 1=k→last=ats[j]!.1)∧lo≤last∧attL hi lo ats.toList=attL hi last (ats.toList.drop k)∧Below W0.heap.size W0 wr
set_option maxRecDepth 100000 in
set_option maxHeartbeats 8000000 in
theorem rPro_all (k0 fr id t bal abal ph q:Int) (pay:ByteArray) (lo hi:Int) (aA:Option Addr) (aC:Nat) (ats:Array (Int×Int)) (mA:Option Addr) (mC:Nat) (mks:Array Int) (dn:Int) (w:World) (ra:RdK encA 2 w.heap.size w aA ats) (rm:RdI w.heap.size w mA mks) (sa:ats.size≤1000000) (sm:mks.size≤1000000) :
 Calls Tryz.prog 173 #[.agg #[.int .i64 k0,.int .i64 fr,.int .i64 id,.int .i64 t,.int .i64 bal,.int .i64 abal,.int .i64 ph,.int .i64 q,.string pay,.int .i64 lo,.int .i64 hi,.slice aA ats.size aC,.slice mA mks.size mC,.int .i64 dn]] w fun e w'=>e=.returned (.bool (proX lo hi dn ats mks))∧Below w.heap.size w w':=by
 by_cases hb:0≤lo∧lo≤hi∧hi≤1000000∧0≤dn∧dn≤1000000∧mks.size≤9∧ats.size≤200
 ·have HP:Hid (proX lo hi dn ats mks=(attL hi lo ats.toList && mksB mks)):=by
   show _=_
   unfold proX
   rw [decide_eq_true_iff.2 (show 0≤lo∧lo≤1000000∧0≤hi∧hi≤1000000∧lo≤hi∧0≤dn∧dn≤1000000∧mks.size≤9 by omega),decide_eq_true_iff.2 hb.2.2.2.2.2.2]
   simp
  obtain ⟨b1,b2,b3,b4,b5,b6,b7⟩:=hb
  have d1:decide (hi < lo)=false:=by simp;omega
  have d2:(mks.size:Int)≤9:=by omega
  have d3:(ats.size:Int)≤200:=by omega
  have RA:=hI ra
  have RM:=hI rm
  clear ra rm
  go_enter Tryz.func173,Tryz.ntmps173
  go_wp2
  go_loop [3] (fun i=>MkR mks i) (fun i=>mks.size - (intOf i).toNat)
  case atStart=>exact ⟨0,rfl,Nat.zero_le _,fun j hj=>absurd hj (by omega)⟩
  case round =>
   obtain ⟨k,rfl,hk,hall⟩:=hrel
   have HALL:=hI hall
   clear hall
   by_cases hlt:k < mks.size
   ·have kz:(k:Int) < (mks.size:Int):=by omega
    obtain ⟨b,off,rfl,hbl,hc⟩:=RM.out.at_ hlt
    obtain ⟨x,hx⟩:∃ x,mks[k]! = x:=⟨_,rfl⟩
    rw [hx] at hc
    have HX:=hI hx
    clear hx
    by_cases hxm:0≤x∧x≤1000000
    ·have g1:decide (x < 0)=false:=by simp;omega
     have g2:decide (1000000 < x)=false:=by simp;omega
     have HM:Hid (qdd x=true):=by show _=_;unfold qdd;simpa using hxm
     clear hxm
     go_wp2
     go_round
     case rel =>
      refine ⟨k + 1,by go_num,by omega,fun j hj=>?_⟩
      rcases Nat.lt_or_ge j k with h | h
      ·exact HALL.out j h
      ·obtain rfl:j=k:=by omega
       rw [HX.out];exact HM.out
     case measure=>simp [intOf];omega
    ·have HF:Hid (mksB mks=false):=by
      show _=_
      unfold mksB
      rw [decide_eq_false_iff_not]
      intro hh
      have:=hh k hlt
      rw [HX.out] at this
      unfold qdd at this
      simp at this
      exact hxm this
     by_cases g1:x < 0
     ·clear hxm
      go_wp2
      go_ret
      exact ⟨qah (by rw [HP.out,HF.out];simp),bel1 w _⟩
     ·have g1':decide (x < 0)=false:=by simp;omega
      have g2:1000000 < x:=by omega
      clear hxm g1
      go_wp2
      go_ret
      exact ⟨qah (by rw [HP.out,HF.out];simp),bel1 w _⟩
   ·have hlt':decide ((k:Int) < (mks.size:Int))=false:=by simp;omega
    have HMK:Hid (mksB mks=true):=by show _=_;unfold mksB;rw [decide_eq_true_iff];exact fun j hj=>HALL.out j (by omega)
    go_wp2
    go_loopw [4] (fun i wr=>AtR lo hi ats (w.alloc (.cells #[.int .i64 k0,.int .i64 fr,.int .i64 id,.int .i64 t,.int .i64 bal,.int .i64 abal,.int .i64 ph,.int .i64 q,.string pay,.int .i64 lo,.int .i64 hi,.slice aA ats.size aC,.slice mA mks.size mC,.int .i64 dn] 247)) i wr) (fun i _=>ats.size - (intOf i).toNat)
    case atStart=>exact ⟨0,lo,rfl,Nat.zero_le _,(fun _=>rfl),(fun j hj=>by omega),by omega,rfl,Below.refl _ _⟩
    case round =>
     obtain ⟨n,last,rfl,hn,hl0,hl1,hll,hat,hB⟩:=hrel
     have HAT:=hI hat
     have HB:=hI hB
     have HL0:=hI hl0
     have HL1:=hI hl1
     have hgl:w.heap.size < wr.heap.size:=by have:=hB.size;simp at this;omega
     have q9:∀ p:ExtW wr,p.to.cell? ⟨w.heap.size,9,none⟩=some (.int .i64 lo):=fun p=>(p.h.cell (p:=⟨w.heap.size,9,none⟩) hgl).trans ((HB.out.cell (p:=⟨w.heap.size,9,none⟩) (by simp)).trans (by simp))
     have q10:∀ p:ExtW wr,p.to.cell? ⟨w.heap.size,10,none⟩=some (.int .i64 hi):=fun p=>(p.h.cell (p:=⟨w.heap.size,10,none⟩) hgl).trans ((HB.out.cell (p:=⟨w.heap.size,10,none⟩) (by simp)).trans (by simp))
     have q11:∀ p:ExtW wr,p.to.cell? ⟨w.heap.size,11,none⟩=some (.slice aA ats.size aC):=fun p=>(p.h.cell (p:=⟨w.heap.size,11,none⟩) hgl).trans ((HB.out.cell (p:=⟨w.heap.size,11,none⟩) (by simp)).trans (by simp))
     have r11:wr.cell? ⟨w.heap.size,11,none⟩=some (.slice aA ats.size aC):=(HB.out.cell (p:=⟨w.heap.size,11,none⟩) (by simp)).trans (by simp)
     have hBw:Below w.heap.size w wr:=qad (bel1 w _) HB.out
     have HBw:=hI hBw
     clear hat hB hl0 hl1 hBw
     by_cases hlt2:n < ats.size
     ·have nz:(n:Int) < (ats.size:Int):=by omega
      obtain ⟨b,off,rfl,hbl,f⟩:=(RA.out.below HBw.out).at_ hlt2
      have e0:=f 0 (by omega)
      have e1:=f 1 (by omega)
      have HD:=hI (qvt ats n hlt2)
      have hbw:b < wr.heap.size:=Nat.lt_of_lt_of_le hbl HBw.out.size
      obtain ⟨x,hx⟩:∃ x,ats[n]! = x:=⟨_,rfl⟩
      rw [hx] at e0 e1 HD
      have HX:=hI hx
      simp only [Nat.add_zero,encA,List.getElem!_cons_zero,List.getElem!_cons_succ] at e0 e1
      have q0:∀ p:ExtW wr,p.to.cell? ⟨b,off + n * 2,none⟩=some (.int .i64 x.1):=fun p=>(p.h.cell (p:=⟨b,off + n * 2,none⟩) hbw).trans e0
      have HSP:=hI (fun W=>qmd x.2 W)
      have hself:=qpy x.2
      clear f hx e0
      cases hid:okId x.2
      ·have z0:(qir x.2 == 0)=true:=by unfold qir;rw [hid];rfl
       have HF:Hid (attL hi lo ats.toList=false):=by show _=_;rw [HAT.out,HD.out];simp [attL,hid]
       clear hid hself
       generalize qir x.2=sf at z0 HSP
       go_wp2_with (go_at_call 170;refine (HSP.out _).mono ?_;rintro e w' ⟨rfl,rfl⟩)
       refine qai (by kernel_rfl) (by kernel_rfl) ?_
       repeat (first | go_big_quiet_step (fail) | quiet_step (fail))
       refine wpQuiet_nil ?_
       intro w' hw'
       obtain ⟨⟨W,hbW⟩,hw''⟩:=hw'
       have hw3:w'=W:=hw''
       subst hw3
       have HBW:=hI (qad HB.out hbW)
       have HBV:=hI (qad HBw.out hbW)
       clear hbW hw''
       go_wp2
       go_ret
       exact ⟨qah (by rw [HP.out,HF.out];simp),HBV.out⟩
      ·have z0:(qir x.2 == 0)=false:=by rw [hid] at hself;simp at hself ⊢;omega
       clear hself
       by_cases g1:x.1≤lo
       ·have HF:Hid (attL hi lo ats.toList=false):=by show _=_;rw [HAT.out,HD.out];simp [attL];intro h1 h2;omega
        have g1':decide (x.1≤lo)=true:=by simp;omega
        clear hid
        generalize qir x.2=sf at z0 HSP
        go_wp2_with (go_at_call 170;refine (HSP.out _).mono ?_;rintro e w' ⟨rfl,rfl⟩)
        refine qai (by kernel_rfl) (by kernel_rfl) ?_
        repeat (first | go_big_quiet_step (fail) | quiet_step (fail))
        refine wpQuiet_nil ?_
        intro w' hw'
        obtain ⟨⟨W,hbW⟩,hw''⟩:=hw'
        have hw3:w'=W:=hw''
        subst hw3
        have HBW:=hI (qad HB.out hbW)
        have HBV:=hI (qad HBw.out hbW)
        clear hbW hw''
        go_wp2
        go_ret
        exact ⟨qah (by rw [HP.out,HF.out];simp),HBV.out⟩
       ·have g1':decide (x.1≤lo)=false:=by simp;omega
        by_cases g2:hi < x.1
        ·have HF:Hid (attL hi lo ats.toList=false):=by show _=_;rw [HAT.out,HD.out];simp [attL];intro h1 h2;omega
         have g2':decide (hi < x.1)=true:=by simp;omega
         clear hid g1
         generalize qir x.2=sf at z0 HSP
         go_wp2_with (go_at_call 170;refine (HSP.out _).mono ?_;rintro e w' ⟨rfl,rfl⟩)
         refine qai (by kernel_rfl) (by kernel_rfl) ?_
         repeat (first | go_big_quiet_step (fail) | quiet_step (fail))
         refine wpQuiet_nil ?_
         intro w' hw'
         obtain ⟨⟨W,hbW⟩,hw''⟩:=hw'
         have hw3:w'=W:=hw''
         subst hw3
         have HBW:=hI (qad HB.out hbW)
         have HBV:=hI (qad HBw.out hbW)
         clear hbW hw''
         go_wp2
         go_ret
         exact ⟨qah (by rw [HP.out,HF.out];simp),HBV.out⟩
        ·have g2':decide (hi < x.1)=false:=by simp;omega
         by_cases g0:0 < n
         ·obtain ⟨n',hn'⟩:∃ n',n' + 1=n:=⟨n - 1,by omega⟩
          have g0':decide ((0:Int) < (n:Int))=true:=by simp;omega
          have hsub:(n:Int) - 1=(n':Int):=by omega
          have nz':(n':Int) < (ats.size:Int):=by omega
          obtain ⟨b',off',e',hbl',f'⟩:=(RA.out.below HBw.out).at_ (i:=n') (by omega)
          injection e' with e'
          injection e' with eb eo
          subst eb eo
          have u0:=f' 0 (by omega)
          have hlast:=HL1.out n' hn'
          simp only [Nat.add_zero,encA,List.getElem!_cons_zero] at u0
          rw [←hlast] at u0
          have q2:∀ p:ExtW wr,p.to.cell? ⟨b,off + n' * 2,none⟩=some (.int .i64 last):=fun p=>(p.h.cell (p:=⟨b,off + n' * 2,none⟩) hbw).trans u0
          clear f' u0 hlast
          by_cases g3:x.1≤last
          ·have HF:Hid (attL hi lo ats.toList=false):=by show _=_;rw [HAT.out,HD.out];simp [attL];intro h1 h2;omega
           have g3':decide (x.1≤last)=true:=by simp;omega
           clear hid g1 g2 hn'
           generalize qir x.2=sf at z0 HSP
           go_wp2_with (go_at_call 170;refine (HSP.out _).mono ?_;rintro e w' ⟨rfl,rfl⟩)
           refine qai (by kernel_rfl) (by kernel_rfl) ?_
           repeat (first | go_big_quiet_step (fail) | quiet_step (fail))
           refine wpQuiet_nil ?_
           intro w' hw'
           obtain ⟨⟨W,hbW⟩,hw''⟩:=hw'
           have hw3:w'=W:=hw''
           subst hw3
           have HBW:=hI (qad HB.out hbW)
           have HBV:=hI (qad HBw.out hbW)
           clear hbW hw''
           go_wp2
           go_ret
           exact ⟨qah (by rw [HP.out,HF.out];simp),HBV.out⟩
          ·have HN:Hid (attL hi lo ats.toList=attL hi x.1 (ats.toList.drop (n + 1))):=by show _=_;rw [HAT.out,HD.out];simp [attL,hid];intro h;omega
           have g3':decide (x.1≤last)=false:=by simp;omega
           clear hid hn'
           generalize qir x.2=sf at z0 HSP
           go_wp2_with (go_at_call 170;refine (HSP.out _).mono ?_;rintro e w' ⟨rfl,rfl⟩)
           refine qai (by kernel_rfl) (by kernel_rfl) ?_
           repeat (first | go_big_quiet_step (fail) | quiet_step (fail))
           refine wpQuiet_nil ?_
           intro w' hw'
           obtain ⟨⟨W,hbW⟩,hw''⟩:=hw'
           have hw3:w'=W:=hw''
           subst hw3
           have HBW:=hI (qad HB.out hbW)
           have HBV:=hI (qad HBw.out hbW)
           clear hbW hw''
           go_wp2
           go_roundw
           case rel=>exact ⟨n + 1,x.1,by go_num,by omega,(fun h=>by omega),(fun j hj=>by have e:j=n:=(by omega);rw [e,HX.out]),by omega,HN.out,HBW.out⟩
           case measure=>simp [intOf];omega
         ·have g0':decide ((0:Int) < (n:Int))=false:=by simp;omega
          have hlast:=HL0.out (by omega)
          have HN:Hid (attL hi lo ats.toList=attL hi x.1 (ats.toList.drop (n + 1))):=by show _=_;rw [HAT.out,HD.out];simp [attL,hid];intro h;omega
          clear hid hlast
          generalize qir x.2=sf at z0 HSP
          go_wp2_with (go_at_call 170;refine (HSP.out _).mono ?_;rintro e w' ⟨rfl,rfl⟩)
          refine qai (by kernel_rfl) (by kernel_rfl) ?_
          repeat (first | go_big_quiet_step (fail) | quiet_step (fail))
          refine wpQuiet_nil ?_
          intro w' hw'
          obtain ⟨⟨W,hbW⟩,hw''⟩:=hw'
          have hw3:w'=W:=hw''
          subst hw3
          have HBW:=hI (qad HB.out hbW)
          have HBV:=hI (qad HBw.out hbW)
          clear hbW hw''
          go_wp2
          go_roundw
          case rel=>exact ⟨n + 1,x.1,by go_num,by omega,(fun h=>by omega),(fun j hj=>by have e:j=n:=(by omega);rw [e,HX.out]),by omega,HN.out,HBW.out⟩
          case measure=>simp [intOf];omega
     ·have hlt2':decide ((n:Int) < (ats.size:Int))=false:=by simp;omega
      have HE:Hid (attL hi lo ats.toList=true):=by
       show _=_
       rw [HAT.out,List.drop_of_length_le (by simp;omega)];rfl
      go_wp2
      go_ret
      exact ⟨qah (by rw [HP.out,HE.out,HMK.out];rfl),HBw.out⟩
 ·have HP:Hid (proX lo hi dn ats mks=false):=by
   show _=_
   unfold proX
   by_cases h1:0≤lo∧lo≤1000000∧0≤hi∧hi≤1000000∧lo≤hi∧0≤dn∧dn≤1000000∧mks.size≤9
   ·have:¬ ats.size≤200:=by omega
    simp [this]
   ·rw [decide_eq_false_iff_not.2 h1];simp
  have HBB:=hI hb
  clear hb ra rm
  go_enter Tryz.func173,Tryz.ntmps173
  go_wp2
  all_goals first
   | (go_ret;exact ⟨qah HP.out.symm,bel1 w _⟩)
   | (exfalso;have:=HBB.out;omega)
end Go.Proofs.YtjkecckndfcbjaaGreatDoor
namespace Go.Proofs.YtjkecckndfcbjaaGreatDoor
open Go.RowKit Nb
def c4 (m:PM):Bool:=decide (1≤m.fr) && decide (m.fr≤9) && (okId m.id == hasB m.k 105) && (okId m.id || decide (m.id=0))
def c5 (m:PM):Bool:=inB (hasB m.k 116) m.t 1 1000000 && inB (hasB m.k 98) m.bal 1 1000000 && inB (hasB m.k 99) m.q 1 511 && decide (m.pay.size≤300) && (hasB m.k 99 || decide (m.pay=⟨#[]⟩))
def c7 (m:PM):Bool:=decide (0≤m.abal) && decide (m.abal < m.bal) && decide (1≤m.ph) && decide (m.ph≤4) && (decide (0 < m.abal) || decide (3≤m.ph))
def c8 (m:PM):Bool:=decide (m.abal=0) && decide (m.ph=0)
def c11 (m:PM):Bool:=decide (m.lo=0) && decide (m.hi=0) && decide (m.dn=0) && decide (m.ats.size=0) && decide (m.mks.size=0)
def chkR (m:PM):Int:=if m.k < 1∨10 < m.k then 30 else if c4 m && c5 m && (if hasB m.k 97 then c7 m else c8 m) && (if hasB m.k 112 then proB m else c11 m) then 0 else 2
theorem size0 {α:Type} (d:Array α):d.size=0↔#[]=d:=by
 constructor
 ·intro h;exact (Array.eq_empty_of_size_eq_zero h).symm
 ·rintro rfl;rfl
set_option maxHeartbeats 4000000 in
theorem chkR_eq (m:PM):chkR m=chkM m:=by
 unfold chkR chkM
 by_cases hk:m.k < 1∨10 < m.k
 ·rw [if_pos hk,if_pos hk]
 rw [if_neg hk,if_neg hk]
 have key:(c4 m && c5 m && (if hasB m.k 97 then c7 m else c8 m) && (if hasB m.k 112 then proB m else c11 m))=(decide (1≤m.fr∧m.fr≤9) && qfy (qbq m) m && mayB m):=by
  have hks:m.k=1∨m.k=2∨m.k=3∨m.k=4∨m.k=5∨m.k=6∨m.k=7∨m.k=8∨m.k=9∨m.k=10:=by omega
  unfold c4 c5 c7 c8 c11 qfy qbq mayB carB tolB
  generalize hpb:proB m=pb
  have hi0:okId m.id=true→m.id≠0:=by intro h;unfold okId at h;rw [decide_eq_true_eq] at h;omega
  generalize okId m.id=oi at hi0 ⊢
  have hpe:m.pay=⟨#[]⟩→m.pay.size≤300:=by intro h;rw [h];decide
  have ha:=size0 m.ats
  have hm:=size0 m.mks
  rcases hks with e | e | e | e | e | e | e | e | e | e
  all_goals
   rw [Bool.eq_iff_iff]
   simp only [e,hasB,hasT,inB,qbj,ha,hm]
   simp
   grind
 rw [key]
end Go.Proofs.YtjkecckndfcbjaaGreatDoor
