/- Texts that the law leans on. -/
import Derived.Test.YtjkecckndfcbjaaGreatDoorKDskA
namespace Go.Proofs.YtjkecckndfcbjaaGreatDoor
open Go.RowKit
set_option maxRecDepth 100000
def appQ (d:DK) (f:Int) (s:ByteArray):DK×Nat:=if d.up f≠0 then (d,d.up f) else if d.room < d.f0.s.size + d.f1.s.size + s.size then (d,22) else (appD d f.toNat s,offC d)
def qcu (d:DK) (f:Int):DK×Nat:=if d.up f≠0 then (d,d.up f) else (qcx d f.toNat,offC d)
def qbu (d:DK) (f:Int):DK×Nat:=if d.up f≠0 then (d,d.up f) else (qaw d f.toNat,offC d)
theorem qom {d:DK} {f:Int} (h:d.up f=0):d.dead=false∧∃ k:Nat,(k=0∨k=1)∧f=(k:Int):=by
 unfold DK.up at h
 split at h
 ·cases h
 ·rename_i h1
  split at h
  ·cases h
  ·rename_i h2
   exact ⟨by simpa using h1,f.toNat,by omega,by omega⟩
theorem qva (d:DK) (f:Int):d.up f≤100:=by unfold DK.up;split <;> (try split) <;> omega
def DskP (g:Nat) (x:DK×Nat) (w:World) (e:Ending) (w':World):Prop:=ErD x.2 e w'∧DAt w' g x.1∧But g w w'
theorem app_room {d:DK} (hok:d.ok):d.f0.s.size≤1000000∧d.f1.s.size≤1000000∧d.room≤1000000:=by
 have:=hok.fit
 have:=hok.room
 exact ⟨by omega,by omega,by omega⟩
theorem CapF.drew {w:World} {g f p q:Nat} (h:CapF w g f p q):CapF w.drew g f p q:=⟨h.hf,h.p0,h.q0,h.pg,h.qg⟩
set_option maxHeartbeats 2000000 in
theorem qna (d:DK) (g:Nat) (f:Int) (s:ByteArray) (w:World) (h:DAt w g d) (hok:d.ok) (ho:d.ops≤1000000000) (hs:s.size≤2000000000) :
 Calls Tryz.prog 61 #[.pointer (some ⟨g,0,none⟩),.int .i64 f,.string s] w (DskP g (appQ d f s) w):=by
 have hmf:∀ (fn:Fn) (first cap:Array Value) (w:World),(Instr.makeFunc fn first cap).run Tryz.prog w=.ok (.func fn first cap) w:=fun _ _ _ _=>rfl
 have H1:=hI (fun W (hb:Below w.heap.size w W)=>qqp d g f W (h.below hb) hok.one)
 have H:=hI h
 have HOK:=hI hok
 have hlt:=h.lt
 have HB:Hid (Below w.heap.size w (((w.alloc (.cells #[.pointer (some ⟨g,0,none⟩)] 25)).alloc (.cells #[.int .i64 f] 3)).alloc (.cells #[.string s] 9))):=(((bel1 w _).alloc (by simp) _).alloc (by simp;omega) _)
 have hfew:=qva d f
 by_cases hu:d.up f=0
 ·obtain ⟨hdd,k,hk,hf⟩:=qom hu
  have hkt:f.toNat=k:=by omega
  rw [hu] at H1
  subst hf
  have c0:((((w.alloc (.cells #[.pointer (some ⟨g,0,none⟩)] 25)).alloc (.cells #[.int .i64 (k:Int)] 3)).alloc (.cells #[.string s] 9))).cell? ⟨w.heap.size,0,none⟩=some (.pointer (some ⟨g,0,none⟩)):=by rw [World.cell?_alloc_lt _ _ _ (by simp;omega)];simp
  have c1:((((w.alloc (.cells #[.pointer (some ⟨g,0,none⟩)] 25)).alloc (.cells #[.int .i64 (k:Int)] 3)).alloc (.cells #[.string s] 9))).cell? ⟨w.heap.size + 1,0,none⟩=some (.int .i64 (k:Int)):=by rw [World.cell?_alloc_lt _ _ _ (by simp)];simp
  have HCF:Hid (CapF ((((w.alloc (.cells #[.pointer (some ⟨g,0,none⟩)] 25)).alloc (.cells #[.int .i64 (k:Int)] 3)).alloc (.cells #[.string s] 9))) g k w.heap.size (w.heap.size + 1)):=⟨hk,c0,c1,by omega,by omega⟩
  have H2:=hI (show (((w.alloc (.cells #[.pointer (some ⟨g,0,none⟩)] 25)).alloc (.cells #[.int .i64 (k:Int)] 3)).alloc (.cells #[.string s] 9)).cell? ⟨w.heap.size + 1 + 1,0,none⟩=some (.string s) by exact qjq (W:=((w.alloc (.cells #[.pointer (some ⟨g,0,none⟩)] 25)).alloc (.cells #[.int .i64 (k:Int)] 3))) (by simp))
  obtain ⟨r1,r2,r3⟩:=app_room hok
  obtain ⟨b0,-,-,b3,-,-,b6,-,-,-⟩:=(h.below HB.out).cells
  by_cases hfull:d.room < d.f0.s.size + d.f1.s.size + s.size
  ·have HQ:Hid (appQ d (k:Int) s=(d,22)):=by show _=_;unfold appQ;rw [if_neg (by omega),if_pos hfull]
   rw [HQ.out]
   have hfull':(d.room:Int) - (d.f0.s.size:Int) - (d.f1.s.size:Int) < (s.size:Int):=by omega
   have HT:=hI (fun (W:World)=>qda 22 W (by omega))
   have HBD:=hI (Below.drew HB.out)
   clear h hok hfew HQ hu hfull hkt HCF
   go_enter Tryz.func61,Tryz.ntmps61
   go_wp2_with (go_at_call 52;refine (H1.out _ HB.out).mono ?_;rintro _ _ ⟨rfl,rfl⟩)
   go_region
   go_wp2_with (go_at_call 32;refine (HT.out _).mono ?_;rintro e w3 ⟨v,rfl,hch,hb3⟩;have HCH:=hI hch;have HB3:=hI (qac HBD.out hb3);clear hch hb3)
   go_ret
   exact ⟨qfh (c:=22) (by decide) HCH.out,H.out.below HB3.out,But.of HB3.out⟩
  ·have HQ:Hid (appQ d (k:Int) s=(appD d k s,offC d)):=by show _=_;unfold appQ;rw [if_neg (by omega),if_neg hfull];rfl
   rw [HQ.out]
   have hfull':decide ((d.room:Int) - (d.f0.s.size:Int) - (d.f1.s.size:Int) < (s.size:Int))=false:=decide_eq_false (by omega)
   have HOP:=hI (opA_any d g k w.heap.size (w.heap.size + 1) (w.heap.size + 1 + 1) s _ (H.out.below HB.out).drew hok ho HCF.out.drew hs H2.out (by omega))
   clear h hok hfew HQ hu hfull hkt
   go_enter Tryz.func61,Tryz.ntmps61
   go_wp2_with (go_at_call 52;refine (H1.out _ HB.out).mono ?_;rintro _ _ ⟨rfl,rfl⟩)
   go_region
   go_wp2_with (go_at_call 91;refine HOP.out.mono ?_;rintro e w3 ⟨⟨v,rfl,hv⟩,hd3,hb3⟩;have HV:=hI hv;have HD3:=hI hd3;have HB3:=hI ((But.of HB.out).drew.trans hb3);clear hv hd3 hb3)
   go_ret
   exact ⟨⟨_,rfl,HV.out⟩,HD3.out,HB3.out⟩
 ·have HQ:Hid (appQ d f s=(d,d.up f)):=by show _=_;unfold appQ;rw [if_pos hu]
  rw [HQ.out]
  have hu':(((d.up f:Nat):Int) != 0)=true:=by simp;omega
  have HT:=hI (fun (W:World)=>qda (d.up f:Int) W (by omega))
  generalize d.up f=u at H1 HT hu hu' ⊢
  clear h hok hfew HQ
  go_enter Tryz.func61,Tryz.ntmps61
  go_wp2_with (first | (go_at_call 52;refine (H1.out _ HB.out).mono ?_;rintro _ _ ⟨rfl,rfl⟩) | (go_at_call 32;refine (HT.out _).mono ?_;rintro e w3 ⟨v,rfl,hch,hb3⟩;have HCH:=hI hch;have HB3:=hI (qac HB.out hb3);clear hch hb3))
  go_ret
  exact ⟨qfh hu HCH.out,H.out.below HB3.out,But.of HB3.out⟩
set_option maxHeartbeats 2000000 in
theorem qvb (d:DK) (g:Nat) (f:Int) (w:World) (h:DAt w g d) (hok:d.ok) (ho:d.ops≤1000000000) :
 Calls Tryz.prog 63 #[.pointer (some ⟨g,0,none⟩),.int .i64 f] w (DskP g (qcu d f) w):=by
 have hmf:∀ (fn:Fn) (first cap:Array Value) (w:World),(Instr.makeFunc fn first cap).run Tryz.prog w=.ok (.func fn first cap) w:=fun _ _ _ _=>rfl
 have H1:=hI (fun W (hb:Below w.heap.size w W)=>qqp d g f W (h.below hb) hok.one)
 have H:=hI h
 have HOK:=hI hok
 have hlt:=h.lt
 have HB:Hid (Below w.heap.size w ((w.alloc (.cells #[.pointer (some ⟨g,0,none⟩)] 25)).alloc (.cells #[.int .i64 f] 3))):=((bel1 w _).alloc (by simp) _)
 have hfew:=qva d f
 by_cases hu:d.up f=0
 ·obtain ⟨hdd,k,hk,hf⟩:=qom hu
  have hkt:f.toNat=k:=by omega
  rw [hu] at H1
  subst hf
  have c0:(((w.alloc (.cells #[.pointer (some ⟨g,0,none⟩)] 25)).alloc (.cells #[.int .i64 (k:Int)] 3))).cell? ⟨w.heap.size,0,none⟩=some (.pointer (some ⟨g,0,none⟩)):=by simp
  have c1:(((w.alloc (.cells #[.pointer (some ⟨g,0,none⟩)] 25)).alloc (.cells #[.int .i64 (k:Int)] 3))).cell? ⟨w.heap.size + 1,0,none⟩=some (.int .i64 (k:Int)):=by simp
  have HCF:Hid (CapF (((w.alloc (.cells #[.pointer (some ⟨g,0,none⟩)] 25)).alloc (.cells #[.int .i64 (k:Int)] 3))) g k w.heap.size (w.heap.size + 1)):=⟨hk,c0,c1,by omega,by omega⟩
  have HQ:Hid (qcu d (k:Int)=(qcx d k,offC d)):=by show _=_;unfold qcu;rw [if_neg (by omega)];rfl
  rw [HQ.out]
  have HOP:=hI (opS_any d g k w.heap.size (w.heap.size + 1) _ (H.out.below HB.out) hok ho HCF.out)
  clear h hok hfew HQ hu hkt
  go_enter Tryz.func63,Tryz.ntmps63
  go_wp2_with (first | (go_at_call 52;refine (H1.out _ HB.out).mono ?_;rintro _ _ ⟨rfl,rfl⟩) | (go_at_call 91;refine HOP.out.mono ?_;rintro e w3 ⟨⟨v,rfl,hv⟩,hd3,hb3⟩;have HV:=hI hv;have HD3:=hI hd3;have HB3:=hI ((But.of HB.out).trans hb3);clear hv hd3 hb3))
  go_ret
  exact ⟨⟨_,rfl,HV.out⟩,HD3.out,HB3.out⟩
 ·have HQ:Hid (qcu d f=(d,d.up f)):=by show _=_;unfold qcu;rw [if_pos hu]
  rw [HQ.out]
  have hu':(((d.up f:Nat):Int) != 0)=true:=by simp;omega
  have HT:=hI (fun (W:World)=>qda (d.up f:Int) W (by omega))
  generalize d.up f=u at H1 HT hu hu' ⊢
  clear h hok hfew HQ
  go_enter Tryz.func63,Tryz.ntmps63
  go_wp2_with (first | (go_at_call 52;refine (H1.out _ HB.out).mono ?_;rintro _ _ ⟨rfl,rfl⟩) | (go_at_call 32;refine (HT.out _).mono ?_;rintro e w3 ⟨v,rfl,hch,hb3⟩;have HCH:=hI hch;have HB3:=hI (qac HB.out hb3);clear hch hb3))
  go_ret
  exact ⟨qfh hu HCH.out,H.out.below HB3.out,But.of HB3.out⟩
set_option maxHeartbeats 2000000 in
theorem reset_any (d:DK) (g:Nat) (f:Int) (w:World) (h:DAt w g d) (hok:d.ok) (ho:d.ops≤1000000000) :
 Calls Tryz.prog 68 #[.pointer (some ⟨g,0,none⟩),.int .i64 f] w (DskP g (qbu d f) w):=by
 have hmf:∀ (fn:Fn) (first cap:Array Value) (w:World),(Instr.makeFunc fn first cap).run Tryz.prog w=.ok (.func fn first cap) w:=fun _ _ _ _=>rfl
 have H1:=hI (fun W (hb:Below w.heap.size w W)=>qqp d g f W (h.below hb) hok.one)
 have H:=hI h
 have HOK:=hI hok
 have hlt:=h.lt
 have HB:Hid (Below w.heap.size w ((w.alloc (.cells #[.pointer (some ⟨g,0,none⟩)] 25)).alloc (.cells #[.int .i64 f] 3))):=((bel1 w _).alloc (by simp) _)
 have hfew:=qva d f
 by_cases hu:d.up f=0
 ·obtain ⟨hdd,k,hk,hf⟩:=qom hu
  have hkt:f.toNat=k:=by omega
  rw [hu] at H1
  subst hf
  have c0:(((w.alloc (.cells #[.pointer (some ⟨g,0,none⟩)] 25)).alloc (.cells #[.int .i64 (k:Int)] 3))).cell? ⟨w.heap.size,0,none⟩=some (.pointer (some ⟨g,0,none⟩)):=by simp
  have c1:(((w.alloc (.cells #[.pointer (some ⟨g,0,none⟩)] 25)).alloc (.cells #[.int .i64 (k:Int)] 3))).cell? ⟨w.heap.size + 1,0,none⟩=some (.int .i64 (k:Int)):=by simp
  have HCF:Hid (CapF (((w.alloc (.cells #[.pointer (some ⟨g,0,none⟩)] 25)).alloc (.cells #[.int .i64 (k:Int)] 3))) g k w.heap.size (w.heap.size + 1)):=⟨hk,c0,c1,by omega,by omega⟩
  have HQ:Hid (qbu d (k:Int)=(qaw d k,offC d)):=by show _=_;unfold qbu;rw [if_neg (by omega)];rfl
  rw [HQ.out]
  have HOP:=hI (opR_any d g k w.heap.size (w.heap.size + 1) _ (H.out.below HB.out) hok ho HCF.out)
  clear h hok hfew HQ hu hkt
  go_enter Tryz.func68,Tryz.ntmps68
  go_wp2_with (first | (go_at_call 52;refine (H1.out _ HB.out).mono ?_;rintro _ _ ⟨rfl,rfl⟩) | (go_at_call 91;refine HOP.out.mono ?_;rintro e w3 ⟨⟨v,rfl,hv⟩,hd3,hb3⟩;have HV:=hI hv;have HD3:=hI hd3;have HB3:=hI ((But.of HB.out).trans hb3);clear hv hd3 hb3))
  go_ret
  exact ⟨⟨_,rfl,HV.out⟩,HD3.out,HB3.out⟩
 ·have HQ:Hid (qbu d f=(d,d.up f)):=by show _=_;unfold qbu;rw [if_pos hu]
  rw [HQ.out]
  have hu':(((d.up f:Nat):Int) != 0)=true:=by simp;omega
  have HT:=hI (fun (W:World)=>qda (d.up f:Int) W (by omega))
  generalize d.up f=u at H1 HT hu hu' ⊢
  clear h hok hfew HQ
  go_enter Tryz.func68,Tryz.ntmps68
  go_wp2_with (first | (go_at_call 52;refine (H1.out _ HB.out).mono ?_;rintro _ _ ⟨rfl,rfl⟩) | (go_at_call 32;refine (HT.out _).mono ?_;rintro e w3 ⟨v,rfl,hch,hb3⟩;have HCH:=hI hch;have HB3:=hI (qac HB.out hb3);clear hch hb3))
  go_ret
  exact ⟨qfh hu HCH.out,H.out.below HB3.out,But.of HB3.out⟩
end Go.Proofs.YtjkecckndfcbjaaGreatDoor
namespace Go.Proofs.YtjkecckndfcbjaaGreatDoor
open Nb Crc
theorem qdi (d:DK) (f:Nat) (x:FL):(d.put f x).get f=x:=by
 unfold DK.put DK.get
 split <;> rfl
theorem put_oth (d:DK) {f:Nat} (hf:f=0∨f=1) (x:FL):(d.put f x).get (1 - f)=d.get (1 - f):=by
 rcases hf with rfl | rfl <;> rfl
theorem qep (d:DK) {f:Nat} (hf:f=0∨f=1) (x:FL):(d.put (1 - f) x).get f=d.get f:=by
 rcases hf with rfl | rfl <;> rfl
theorem qec (d:DK) (f:Nat) (x:FL):(d.put f x).dead=d.dead:=by unfold DK.put;split <;> rfl
theorem qjd (d:DK) (f:Nat) (x:FL):(d.put f x).arm=d.arm:=by unfold DK.put;split <;> rfl
theorem qdf (d:DK) (f:Nat) (x:FL):(d.put f x).room=d.room:=by unfold DK.put;split <;> rfl
theorem qfi {d:DK} (h:d.off=false):d.goes.dead=d.dead:=by
 unfold DK.off at h
 unfold DK.goes
 rw [if_neg (by simpa using h)]
theorem get_two (d:DK) {f:Nat} (hf:f=0∨f=1):d.f0.s.size + d.f1.s.size=(d.get f).s.size + (d.get (1 - f)).s.size:=by
 rcases hf with rfl | rfl
 ·rfl
 ·exact Nat.add_comm _ _
theorem ba_app (a:ByteArray) (l:List UInt8):(a ++ ⟨l.toArray⟩:ByteArray).data.toList=a.data.toList ++ l:=by simp
structure CD (d:DK) (f B:Nat):Prop where
 ok:d.ok
 file:f=0∨f=1
 live:d.dead=false
 arm:d.arm=0
 room:d.room=900000
 c:ptC (qai (d.get f)).ep (qai (d.get f)).st (qai (d.get f)).evs=0
 ep1:1≤(qai (d.get f)).ep
 ep2:(qai (d.get f)).ep≤B
 few:(qai (d.get f)).evs.length≤40
 size:(d.get f).s.size≤300000
 oth:(qai (d.get (1 - f))).ep < (qai (d.get f)).ep
theorem recC_ep {r:PR} (h:recC r=0) {e:Int} (h1:1≤e) (h2:e≤1000000):recC ⟨e,r.sq,r.sn,r.k,r.dt,r.st⟩=0:=by
 unfold recC at *
 split at h
 ·rename_i hh
  rw [if_pos]
  unfold qoy qoz at *
  simp only [Bool.and_eq_true,decide_eq_true_eq] at hh ⊢
  exact ⟨⟨⟨⟨⟨h1,h2⟩,hh.1.1.1.2⟩,hh.1.1.2⟩,hh.1.2⟩,hh.2⟩
 ·cases h
theorem evsC_ep {ep ep':Nat} (h1:1≤ep') (h2:ep'≤1000000) (l:List EV):∀ i:Nat,evsC ep i l=0→evsC ep' i l=0:=by
 induction l with
 | nil=>intro i _;rfl
 | cons x l ih =>
   intro i h
   obtain ⟨g1,g2⟩:=qeg h
   exact qsv (recC_ep (r:=evR ep i x) g1 (e:=(ep':Int)) (by omega) (by omega)) (ih _ g2)
theorem ptC_ep {ep ep':Nat} {st:ByteArray} {l:List EV} (h:ptC ep st l=0) (h1:1≤ep') (h2:ep'≤1000000):ptC ep' st l=0:=by
 obtain ⟨g1,g2⟩:=qli h
 have g3:recC (snR ep' st)=0:=recC_ep (r:=snR ep st) g1 (e:=(ep':Int)) (by omega) (by omega)
 unfold ptC
 rw [if_neg (by rw [g3];simp)]
 exact evsC_ep h1 h2 l 1 g2
theorem qon {ep i:Nat} {e:EV} (h:recC (evR ep i e)=0):(qak (recB (evR ep i e))).length≤5100:=by
 obtain ⟨h1,h2,h3,h4,-,h6⟩:=qgi h
 obtain ⟨h7,h8,h9,-⟩:=h6 rfl
 have q1:=qaz (evR ep i e).ep.toNat (by omega)
 have q2:=qaz (evR ep i e).sq.toNat (by omega)
 have e1:(evR ep i e).dt.data.toList.length=(evR ep i e).dt.size:=by simp
 have q4:=qaz (evR ep i e).dt.data.toList.length (by omega)
 have q5:=qaz (evR ep i e).k.toNat (by omega)
 have e2:(recB (evR ep i e)).length≤5040:=by
  unfold recB qdg
  rw [show (evR ep i e).sn=false from rfl]
  simp only [List.length_append,Bool.false_eq_true,if_false]
  show _ + _ + 1 + _≤_
  omega
 have q6:=qaz (recB (evR ep i e)).length (by omega)
 rw [qdy]
 omega
theorem evsB_size {ep:Nat} (l:List EV):∀ i:Nat,evsC ep i l=0→((evsB ep i l).flatMap qak).length≤5100 * l.length:=by
 induction l with
 | nil=>intro i _;simp [evsB]
 | cons x l ih =>
   intro i h
   obtain ⟨g1,g2⟩:=qeg h
   have:=ih _ g2
   have:=qon g1
   rw [evsB,List.flatMap_cons,List.length_append,List.length_cons]
   omega
theorem qeq {ep:Nat} {st:ByteArray} {l:List EV} (h:ptC ep st l=0):(ptF ep st l).length≤18200 + 5100 * l.length:=by
 obtain ⟨g1,g2⟩:=qli h
 have h1:=qhe g1
 have h2:=evsB_size l 1 g2
 have q6:=qaz (recB (snR ep st)).length (by omega)
 unfold ptF ptB
 rw [List.flatMap_cons,List.length_append,qdy]
 omega
theorem qhf {f:FL} {ep:Nat} {st:ByteArray} {evs:List EV} (h:ptC ep st evs=0) (hs:f.s.data.toList=ptF ep st evs):qai f=⟨ep,st,evs,(ptF ep st evs).length⟩:=by
 unfold qai
 rw [hs,tellL_pt h]
theorem zF_nil:zF.s=⟨#[]⟩:=rfl
theorem layG_on {l:LG} (hok:l.d.ok) (hf:l.file=0∨l.file=1) (hl:l.d.dead=false) (ha:l.d.arm=0) (bs:ByteArray) (hfit:(l.d.get l.file).s.size + bs.size≤l.d.room) (ep k:Nat) :
 ∃ d',layG l ep bs k=(⟨d',1 - l.file,ep,k,l.shut⟩,0)∧d'.ok∧d'.dead=false∧d'.arm=0∧d'.room=l.d.room∧d'.get l.file=l.d.get l.file∧(d'.get (1 - l.file)).s=bs∧(d'.get (1 - l.file)).half=false∧(d'.get (1 - l.file)).safe=bs.size:=by
 have o0:l.d.off=false:=by unfold DK.off;rw [ha];rfl
 have e1:qaw l.d (1 - l.file)=l.d.goes.put (1 - l.file) zF:=by unfold qaw;rw [if_neg (by rw [o0];simp)]
 have a1:(qaw l.d (1 - l.file)).arm=0:=by rw [e1,qjd,qfz,ha]
 have r1:(qaw l.d (1 - l.file)).room=l.d.room:=by rw [e1,qdf,qba]
 have d1:(qaw l.d (1 - l.file)).dead=false:=by rw [e1,qec,qfi o0,hl]
 have k1:(qaw l.d (1 - l.file)).ok:=qib hok _
 have g1:(qaw l.d (1 - l.file)).get (1 - l.file)=zF:=by rw [e1,qdi]
 have f1:(qaw l.d (1 - l.file)).get l.file=l.d.get l.file:=by rw [e1,qep _ hf,qbh]
 have t1:(qaw l.d (1 - l.file)).f0.s.size + (qaw l.d (1 - l.file)).f1.s.size=(l.d.get l.file).s.size + 0:=by rw [get_two _ hf,f1,g1];rfl
 generalize hd1:qaw l.d (1 - l.file)=x1 at *
 have o1:x1.off=false:=by unfold DK.off;rw [a1];rfl
 have e2:appD x1 (1 - l.file) bs=x1.goes.put (1 - l.file) ⟨zF.s ++ bs,0,false⟩:=by unfold appD;rw [g1];rfl
 have k2:(appD x1 (1 - l.file) bs).ok:=qoc k1 _ _ (by omega)
 have a2:(appD x1 (1 - l.file) bs).arm=0:=by rw [e2,qjd,qfz,a1]
 have r2:(appD x1 (1 - l.file) bs).room=l.d.room:=by rw [e2,qdf,qba,r1]
 have d2:(appD x1 (1 - l.file) bs).dead=false:=by rw [e2,qec,qfi o1,d1]
 have g2:(appD x1 (1 - l.file) bs).get (1 - l.file)=⟨bs,0,false⟩:=by rw [e2,qdi,zF_nil];congr 1;first | done | simp
 have f2:(appD x1 (1 - l.file) bs).get l.file=l.d.get l.file:=by rw [e2,qep _ hf,qbh,f1]
 generalize hd2:appD x1 (1 - l.file) bs=x2 at *
 have o2:x2.off=false:=by unfold DK.off;rw [a2];rfl
 have e3:qcx x2 (1 - l.file)=x2.goes.put (1 - l.file) ⟨bs,bs.size,false⟩:=by unfold qcx;rw [if_neg (by rw [o2];simp),g2]
 refine ⟨qcx x2 (1 - l.file),?_,qkd k2 _,by rw [e3,qec,qfi o2,d2],by rw [e3,qjd,qfz,a2],by rw [e3,qdf,qba,r2],by rw [e3,qep _ hf,qbh,f2],by rw [e3,qdi],by rw [e3,qdi],by rw [e3,qdi]⟩
 unfold layG
 rw [if_neg (by rw [hl];simp),if_neg (by rw [o0];simp),hd1,if_neg (by omega),if_neg (by rw [o1];simp),hd2,if_neg (by rw [o2];simp)]
theorem qgu (l:List UInt8):(⟨l.toArray⟩:ByteArray).size=l.length:=by simp [ByteArray.size]
theorem qgf (ep:Nat) (st:ByteArray) (evs:List EV):(ptA ep st evs).size=(ptF ep st evs).length:=qgu _
theorem open_cd {d:DK} {f B:Nat} (h:CD d f B) (hB:B < 1000000) (x:ByteArray) :
 ∃ l,qbz d x=⟨l,(qai (d.get f)).st,(qai (d.get f)).evs,0⟩∧l.sq=(qai (d.get f)).evs.length∧∃ f',CD l.d f' (B + 1)∧(qai (l.d.get f')).st=(qai (d.get f)).st∧(qai (l.d.get f')).evs=(qai (d.get f)).evs:=by
 obtain ⟨hok,hf,hl,ha,hr,hc,h1,h2,h3,h4,h5⟩:=h
 have e0:qbz d x=qdw d f (qai (d.get f)):=by
  unfold qbz
  rw [if_neg (by rw [hl];simp)]
  rcases hf with rfl | rfl
  ·have q1:d.get 0=d.f0:=rfl
   have q2:d.get (1 - 0)=d.f1:=rfl
   rw [q1,q2] at h5
   rw [q1] at h1
   rw [if_neg (by omega),if_neg (by omega),if_pos (by omega),q1]
  ·have q1:d.get 1=d.f1:=rfl
   have q2:d.get (1 - 1)=d.f0:=rfl
   rw [q1,q2] at h5
   rw [q1] at h1
   rw [if_neg (by omega),if_neg (by omega),if_neg (by omega),q1]
 rw [e0]
 unfold qdw
 by_cases hn:(qai (d.get f)).n=(d.get f).s.size
 ·rw [if_pos hn]
  exact ⟨_,rfl,rfl,f,⟨hok,hf,hl,ha,hr,hc,h1,Nat.le_succ_of_le h2,h3,h4,h5⟩,rfl,rfl⟩
 ·rw [if_neg hn,if_neg (show ¬ 1000000≤(qai (d.get f)).ep by omega)]
  have hc':=ptC_ep hc (ep':=(qai (d.get f)).ep + 1) (by omega) (by omega)
  have hz:=qeq hc'
  obtain ⟨d',q1,q2,q3,q4,q5,q6,q7,-,-⟩:=layG_on (l:=⟨d,f,(qai (d.get f)).ep,(qai (d.get f)).evs.length,false⟩) hok hf hl ha (ptA ((qai (d.get f)).ep + 1) (qai (d.get f)).st (qai (d.get f)).evs) (by
   show (d.get f).s.size + (ptA ((qai (d.get f)).ep + 1) (qai (d.get f)).st (qai (d.get f)).evs).size≤d.room
   rw [qgf]
   omega) ((qai (d.get f)).ep + 1) (qai (d.get f)).evs.length
  dsimp only at q1 q5 q6 q7
  unfold layP
  rw [if_neg (by rw [hc'];simp),q1]
  have ht:qai (d'.get (1 - f))=⟨(qai (d.get f)).ep + 1,(qai (d.get f)).st,(qai (d.get f)).evs,(ptF ((qai (d.get f)).ep + 1) (qai (d.get f)).st (qai (d.get f)).evs).length⟩:=qhf hc' (by rw [q7];rfl)
  have hs:(d'.get (1 - f)).s.size≤300000:=by rw [q7,qgf];omega
  have ho:d'.get (1 - (1 - f))=d.get f:=by
   have:1 - (1 - f)=f:=by rcases hf with rfl | rfl <;> rfl
   rw [this,q6]
  refine ⟨_,rfl,rfl,1 - f,⟨q2,by rcases hf with rfl | rfl <;> simp,q3,q4,by rw [q5];exact hr,?_,?_,?_,?_,hs,?_⟩,?_,?_⟩
  all_goals simp only [ht,ho]
  all_goals first | exact hc' | omega | rfl
structure PP where
 st:ByteArray
 evs:List EV
 safe:Nat
 torn:ByteArray
 lost:Bool
def zP (st:ByteArray):PP:=⟨st,[],0,⟨#[]⟩,false⟩
def actG (l:LG) (k:Int) (e:EV) (tx:ByteArray):LG×Nat:=if k=0 then addG l e else if k=1 then qgo l else qbt l tx
def qig (p:PP) (l:LG) (k:Int) (e:EV) (tx:ByteArray):PP :=
 if k=0 then (if l.sq < (actG l k e tx).1.sq∨(actG l k e tx).1.shut=true then ⟨p.st,p.evs ++ [e],p.safe,p.torn,p.lost⟩ else p) else
 if k=1 then (if (actG l k e tx).1.shut=true then p else ⟨p.st,p.evs,p.evs.length,p.torn,p.lost⟩) else
 if l.ep < (actG l k e tx).1.ep then zP tx else if (actG l k e tx).1.shut=true then ⟨p.st,p.evs,p.safe,tx,true⟩ else p
def OT (n:Nat) (p:PP) (l:LG) (s:List UInt8):Prop :=
 (∃ ep st evs,ep < l.ep∧evs.length≤n∧ptC ep st evs=0∧s=ptF ep st evs)∨s=[]∨(p.lost=true∧ptC (l.ep + 1) p.torn []=0∧s=ptF (l.ep + 1) p.torn [])
structure IV (n:Nat) (p:PP) (l:LG):Prop where
 file:l.file=0∨l.file=1
 ok:l.d.ok
 c:ptC l.ep p.st p.evs=0
 cur:(l.d.get l.file).s.data.toList=ptF l.ep p.st p.evs
 safe:p.safe≤p.evs.length
 kept:(ptF l.ep p.st (p.evs.take p.safe)).length≤(l.d.get l.file).safe
 half:(l.d.get l.file).half=false
 ep1:1≤l.ep
 ep2:l.ep≤n + 1
 few:p.evs.length≤n
 room:l.d.room=900000
 oth:OT n p l (l.d.get (1 - l.file)).s.data.toList
 live:l.shut=false→l.sq=p.evs.length∧l.d.dead=false∧p.lost=false
theorem OT.more {n:Nat} {p:PP} {l:LG} {s:List UInt8} (h:OT n p l s) (p':PP) (l':LG) (hp:p.lost=true→p'.torn=p.torn∧p'.lost=true) (hl:l'.ep=l.ep):OT (n + 1) p' l' s:=by
 rcases h with ⟨ep,st,evs,h1,h2,h3,h4⟩ | h | ⟨h1,h2,h3⟩
 ·exact Or.inl ⟨ep,st,evs,by omega,by omega,h3,h4⟩
 ·exact Or.inr (Or.inl h)
 ·obtain ⟨g1,g2⟩:=hp h1
  exact Or.inr (Or.inr ⟨g2,by rw [g1,hl];exact h2,by rw [g1,hl];exact h3⟩)
theorem IV.next {n:Nat} {p:PP} {l:LG} (h:IV n p l):IV (n + 1) p l :=
 ⟨h.file,h.ok,h.c,h.cur,h.safe,h.kept,h.half,h.ep1,by have:=h.ep2;omega,by have:=h.few;omega,h.room,h.oth.more p l (fun x=>⟨rfl,x⟩) rfl,h.live⟩
theorem addG_iv {n:Nat} {p:PP} {l:LG} (h:IV n p l) (hs:l.shut=false) (e:EV) (tx:ByteArray):IV (n + 1) (qig p l 0 e tx) (actG l 0 e tx).1:=by
 obtain ⟨hsq,hl,hlost⟩:=h.live hs
 have hA:actG l 0 e tx=addG l e:=rfl
 have hD:qig p l 0 e tx=if l.sq < (addG l e).1.sq∨(addG l e).1.shut=true then ⟨p.st,p.evs ++ [e],p.safe,p.torn,p.lost⟩ else p:=by unfold qig;rw [if_pos rfl];rfl
 rw [hA,hD]
 have same:(addG l e).1=l→IV (n + 1) (if l.sq < (addG l e).1.sq∨(addG l e).1.shut=true then ⟨p.st,p.evs ++ [e],p.safe,p.torn,p.lost⟩ else p) (addG l e).1:=by
  intro hx
  rw [hx,if_neg (by rw [hs];simp)]
  exact h.next
 by_cases h1:1000000≤l.sq
 ·exact same (by unfold addG;rw [if_neg (by rw [hs];simp),if_pos h1])
 by_cases h2:recC (evR l.ep (l.sq + 1) e)=0
 rotate_left
 ·exact same (by unfold addG;rw [if_neg (by rw [hs];simp),if_neg h1,if_pos h2])
 by_cases h3:l.d.room < l.d.f0.s.size + l.d.f1.s.size + (qak (recB (evR l.ep (l.sq + 1) e))).length
 ·exact same (by unfold addG;rw [if_neg (by rw [hs];simp),if_neg h1,if_neg (by rw [h2];simp),if_neg (by rw [hl];simp),if_pos h3])
 have hd:∃ q b,addG l e=(⟨appD l.d l.file ⟨(qak (recB (evR l.ep (l.sq + 1) e))).toArray⟩,l.file,l.ep,q,b⟩,if b then 20 else 0)∧(l.sq < q∨b=true)∧(b=false→q=l.sq + 1∧l.d.off=false):=by
  unfold addG
  rw [if_neg (by rw [hs];simp),if_neg h1,if_neg (by rw [h2];simp),if_neg (by rw [hl];simp),if_neg h3]
  by_cases ho:l.d.off=true
  ·rw [if_pos ho]
   exact ⟨l.sq,true,by unfold shutG;simp,Or.inr rfl,fun h=>by cases h⟩
  ·rw [if_neg ho]
   exact ⟨l.sq + 1,false,by rw [hs];rfl,Or.inl (Nat.lt_succ_self _),fun _=>⟨rfl,by simpa using ho⟩⟩
 obtain ⟨q,b,hq,hq1,hq2⟩:=hd
 rw [hq,if_pos hq1]
 have hc:=h.c
 rw [hsq] at h2
 have hc':=quy hc h2
 have hz:(⟨(qak (recB (evR l.ep (l.sq + 1) e))).toArray⟩:ByteArray).size=(qak (recB (evR l.ep (l.sq + 1) e))).length:=qgu _
 have hg:(appD l.d l.file ⟨(qak (recB (evR l.ep (l.sq + 1) e))).toArray⟩).get l.file=⟨(l.d.get l.file).s ++ ⟨(qak (recB (evR l.ep (l.sq + 1) e))).toArray⟩,(l.d.get l.file).safe,(l.d.get l.file).half⟩:=by unfold appD;rw [qdi]
 have ho:(appD l.d l.file ⟨(qak (recB (evR l.ep (l.sq + 1) e))).toArray⟩).get (1 - l.file)=l.d.get (1 - l.file):=by unfold appD;rw [put_oth _ h.file,qbh]
 refine ⟨h.file,qoc h.ok _ _ (by rw [hz];omega),hc',?_,?_,?_,?_,h.ep1,by have:=h.ep2;exact Nat.le_succ_of_le this,?_,?_,?_,?_⟩
 ·dsimp only
  rw [hg,qux]
  show (_ ++ (⟨_⟩:ByteArray)).data.toList=_
  rw [ba_app,h.cur,hsq]
 ·have:=h.safe
  simp only [List.length_append]
  omega
 ·dsimp only
  rw [hg,List.take_append_of_le_length h.safe]
  exact h.kept
 ·dsimp only
  rw [hg]
  exact h.half
 ·have:=h.few
  simp only [List.length_append,List.length_cons,List.length_nil]
  omega
 ·dsimp only
  unfold appD
  rw [qdf,qba]
  exact h.room
 ·dsimp only
  rw [ho]
  exact h.oth.more _ _ (fun x=>⟨rfl,x⟩) rfl
 ·intro hb
  obtain ⟨g1,g2⟩:=hq2 hb
  refine ⟨?_,?_,hlost⟩
  ·dsimp only
   rw [g1,hsq]
   simp
  ·dsimp only
   unfold appD
   rw [qec,qfi g2]
   exact hl
theorem syncG_iv {n:Nat} {p:PP} {l:LG} (h:IV n p l) (hs:l.shut=false) (e:EV) (tx:ByteArray):IV (n + 1) (qig p l 1 e tx) (actG l 1 e tx).1:=by
 obtain ⟨hsq,hl,hlost⟩:=h.live hs
 have hA:actG l 1 e tx=qgo l:=rfl
 have hD:qig p l 1 e tx=if (qgo l).1.shut=true then p else ⟨p.st,p.evs,p.evs.length,p.torn,p.lost⟩:=by unfold qig;rw [if_neg (by decide),if_pos rfl];rfl
 rw [hA,hD]
 have hy:qgo l=shutG l (qcx l.d l.file) (offC l.d):=by unfold qgo;rw [if_neg (by rw [hs];simp),if_neg (by rw [hl];simp)]
 rw [hy]
 by_cases ho:l.d.off=true
 ·have e1:qcx l.d l.file=l.d.goes:=by unfold qcx;rw [if_pos ho]
  have e2:offC l.d=20:=by unfold offC;rw [if_pos ho]
  rw [e1,e2]
  have hn:=h.next
  rw [if_pos (by unfold shutG;simp)]
  exact ⟨h.file,qht h.ok,h.c,by unfold shutG;dsimp only;rw [qbh];exact h.cur,h.safe,by unfold shutG;dsimp only;rw [qbh];exact h.kept,by unfold shutG;dsimp only;rw [qbh];exact h.half,h.ep1,hn.ep2,hn.few,by unfold shutG;dsimp only;rw [qba];exact h.room,by unfold shutG;dsimp only;rw [qbh];exact h.oth.more _ _ (fun x=>⟨rfl,x⟩) rfl,fun hb=>by unfold shutG at hb;simp at hb⟩
 ·have ho':l.d.off=false:=by simpa using ho
  have e1:qcx l.d l.file=l.d.goes.put l.file ⟨(l.d.get l.file).s,(l.d.get l.file).s.size,(l.d.get l.file).half⟩:=by unfold qcx;rw [if_neg ho]
  have e2:offC l.d=0:=by unfold offC;rw [if_neg ho]
  have hk:=qkd h.ok l.file
  rw [e2]
  rw [e1] at hk ⊢
  have hn:=h.next
  have hx:shutG l (l.d.goes.put l.file ⟨(l.d.get l.file).s,(l.d.get l.file).s.size,(l.d.get l.file).half⟩) 0=(⟨l.d.goes.put l.file ⟨(l.d.get l.file).s,(l.d.get l.file).s.size,(l.d.get l.file).half⟩,l.file,l.ep,l.sq,l.shut⟩,0):=by unfold shutG;simp
  rw [hx,if_neg (by dsimp only;rw [hs];simp)]
  refine ⟨h.file,hk,h.c,?_,Nat.le_refl _,?_,?_,h.ep1,hn.ep2,hn.few,?_,?_,?_⟩
  ·dsimp only
   rw [qdi]
   exact h.cur
  ·dsimp only
   rw [qdi,List.take_length,←h.cur]
   simp
  ·dsimp only
   rw [qdi]
   exact h.half
  ·dsimp only
   rw [qdf,qba]
   exact h.room
  ·dsimp only
   rw [put_oth _ h.file,qbh]
   exact h.oth.more _ _ (fun x=>⟨rfl,x⟩) rfl
  ·intro _
   refine ⟨hsq,?_,hlost⟩
   dsimp only
   rw [qec,qfi ho']
   exact hl
theorem qih (ep:Nat) (st:ByteArray):(⟨(ptF ep st []).toArray⟩:ByteArray).data.toList=ptF ep st []:=by simp
theorem pointG_iv {n:Nat} {p:PP} {l:LG} (h:IV n p l) (hs:l.shut=false) (k:Int) (hk0:k≠0) (hk1:k≠1) (e:EV) (tx:ByteArray):IV (n + 1) (qig p l k e tx) (actG l k e tx).1:=by
 obtain ⟨hsq,hl,hlost⟩:=h.live hs
 have hA:actG l k e tx=qbt l tx:=by unfold actG;rw [if_neg hk0,if_neg hk1]
 have hD:qig p l k e tx=if l.ep < (qbt l tx).1.ep then zP tx else if (qbt l tx).1.shut=true then ⟨p.st,p.evs,p.safe,tx,true⟩ else p:=by unfold qig;rw [if_neg hk0,if_neg hk1,hA]
 rw [hA,hD]
 have same:(qbt l tx).1=l→IV (n + 1) (if l.ep < (qbt l tx).1.ep then zP tx else if (qbt l tx).1.shut=true then ⟨p.st,p.evs,p.safe,tx,true⟩ else p) (qbt l tx).1:=by
  intro hx
  rw [hx,if_neg (Nat.lt_irrefl _),if_neg (by rw [hs];simp)]
  exact h.next
 by_cases h1:1000000≤l.ep
 ·exact same (by unfold qbt;rw [if_neg (by rw [hs];simp),if_pos h1])
 by_cases h2:ptC (l.ep + 1) tx []=0
 rotate_left
 ·exact same (by unfold qbt layP;rw [if_neg (by rw [hs];simp),if_neg h1,if_pos h2])
 have hp:qbt l tx=layG l (l.ep + 1) (ptA (l.ep + 1) tx []) 0:=by
  unfold qbt layP
  rw [if_neg (by rw [hs];simp),if_neg h1,if_neg (by rw [h2];simp)]
  rfl
 have hn:=h.next
 have hfl:(1 - l.file)=0∨(1 - l.file)=1:=by rcases h.file with e | e <;> rw [e] <;> simp
 have hff:1 - (1 - l.file)=l.file:=by rcases h.file with e | e <;> rw [e]
 rw [hp]
 have hdd:¬ l.d.dead=true:=by rw [hl];simp
 unfold layG
 rw [if_neg hdd]
 by_cases ho:l.d.off=true
 ·have e1:qaw l.d (1 - l.file)=l.d.goes.put (1 - l.file) ⟨(l.d.get (1 - l.file)).s,(l.d.get (1 - l.file)).safe,true⟩:=by unfold qaw;rw [if_pos ho]
  have hk:=qib h.ok (1 - l.file)
  rw [if_pos ho]
  rw [e1] at hk ⊢
  unfold shutG
  rw [if_neg (Nat.lt_irrefl _),if_pos (by simp)]
  refine ⟨h.file,hk,h.c,?_,h.safe,?_,?_,h.ep1,hn.ep2,hn.few,?_,?_,fun hb=>by simp at hb⟩
  ·dsimp only;rw [qep _ h.file,qbh];exact h.cur
  ·dsimp only;rw [qep _ h.file,qbh];exact h.kept
  ·dsimp only;rw [qep _ h.file,qbh];exact h.half
  ·dsimp only;rw [qdf,qba];exact h.room
  ·dsimp only
   rw [qdi]
   rcases h.oth with ⟨a,b,c,g1,g2,g3,g4⟩ | g | ⟨g,-⟩
   ·exact Or.inl ⟨a,b,c,g1,by omega,g3,g4⟩
   ·exact Or.inr (Or.inl g)
   ·rw [hlost] at g;cases g
 have ho':l.d.off=false:=by simpa using ho
 have e1:qaw l.d (1 - l.file)=l.d.goes.put (1 - l.file) zF:=by unfold qaw;rw [if_neg ho]
 have k1:=qib h.ok (1 - l.file)
 have r1:(qaw l.d (1 - l.file)).room=900000:=by rw [e1,qdf,qba,h.room]
 have d1:(qaw l.d (1 - l.file)).dead=false:=by rw [e1,qec,qfi ho',hl]
 have g1:(qaw l.d (1 - l.file)).get (1 - l.file)=zF:=by rw [e1,qdi]
 have f1:(qaw l.d (1 - l.file)).get l.file=l.d.get l.file:=by rw [e1,qep _ h.file,qbh]
 rw [if_neg ho]
 generalize qaw l.d (1 - l.file)=x1 at k1 r1 d1 g1 f1 ⊢
 by_cases hfit:x1.room < x1.f0.s.size + x1.f1.s.size + (ptA (l.ep + 1) tx []).size
 ·rw [if_pos hfit]
  unfold shutG
  rw [if_neg (Nat.lt_irrefl _),if_neg (by rw [hs];simp)]
  refine ⟨h.file,k1,h.c,by dsimp only;rw [f1];exact h.cur,h.safe,by dsimp only;rw [f1];exact h.kept,by dsimp only;rw [f1];exact h.half,h.ep1,hn.ep2,hn.few,r1,?_,fun _=>⟨hsq,d1,hlost⟩⟩
  dsimp only
  rw [g1]
  exact Or.inr (Or.inl (by rw [zF_nil]))
 rw [if_neg hfit]
 have e2:appD x1 (1 - l.file) (ptA (l.ep + 1) tx [])=x1.goes.put (1 - l.file) ⟨zF.s ++ ptA (l.ep + 1) tx [],0,false⟩:=by unfold appD;rw [g1];rfl
 have k2:=qoc k1 (1 - l.file) (ptA (l.ep + 1) tx []) (by omega)
 have r2:(appD x1 (1 - l.file) (ptA (l.ep + 1) tx [])).room=900000:=by rw [e2,qdf,qba,r1]
 have g2:(appD x1 (1 - l.file) (ptA (l.ep + 1) tx [])).get (1 - l.file)=⟨ptA (l.ep + 1) tx [],0,false⟩:=by rw [e2,qdi,zF_nil];congr 1;first | done | simp
 have f2:(appD x1 (1 - l.file) (ptA (l.ep + 1) tx [])).get l.file=l.d.get l.file:=by rw [e2,qep _ h.file,qbh,f1]
 have d2:x1.off=false→(appD x1 (1 - l.file) (ptA (l.ep + 1) tx [])).dead=false:=fun o1=>by rw [e2,qec,qfi o1,d1]
 generalize appD x1 (1 - l.file) (ptA (l.ep + 1) tx [])=x2 at k2 r2 g2 f2 d2 ⊢
 by_cases o1:x1.off=true
 ·rw [if_pos o1]
  unfold shutG
  rw [if_neg (Nat.lt_irrefl _),if_pos (by simp)]
  refine ⟨h.file,k2,h.c,by dsimp only;rw [f2];exact h.cur,h.safe,by dsimp only;rw [f2];exact h.kept,by dsimp only;rw [f2];exact h.half,h.ep1,hn.ep2,hn.few,r2,?_,fun hb=>by simp at hb⟩
  dsimp only
  rw [g2]
  exact Or.inr (Or.inr ⟨rfl,h2,qih _ _⟩)
 rw [if_neg o1]
 have d2':=d2 (by simpa using o1)
 by_cases o2:x2.off=true
 ·have e3:qcx x2 (1 - l.file)=x2.goes:=by unfold qcx;rw [if_pos o2]
  rw [if_pos o2,e3]
  unfold shutG
  rw [if_neg (Nat.lt_irrefl _),if_pos (by simp)]
  refine ⟨h.file,qht k2,h.c,by dsimp only;rw [qbh,f2];exact h.cur,h.safe,by dsimp only;rw [qbh,f2];exact h.kept,by dsimp only;rw [qbh,f2];exact h.half,h.ep1,hn.ep2,hn.few,by dsimp only;rw [qba,r2],?_,fun hb=>by simp at hb⟩
  dsimp only
  rw [qbh,g2]
  exact Or.inr (Or.inr ⟨rfl,h2,qih _ _⟩)
 have e3:qcx x2 (1 - l.file)=x2.goes.put (1 - l.file) ⟨ptA (l.ep + 1) tx [],(ptA (l.ep + 1) tx []).size,false⟩:=by unfold qcx;rw [if_neg o2,g2]
 have k3:=qkd k2 (1 - l.file)
 rw [if_neg o2]
 rw [if_pos (Nat.lt_succ_self _)]
 rw [e3] at k3 ⊢
 refine ⟨hfl,k3,h2,?_,Nat.le_refl _,?_,?_,Nat.succ_le_succ (Nat.zero_le _),Nat.succ_le_succ h.ep2,Nat.zero_le _,?_,?_,fun _=>⟨rfl,?_,rfl⟩⟩
 ·dsimp only;rw [qdi];exact qih _ _
 ·dsimp only
  rw [qdi]
  show (ptF _ tx (([]:List EV).take 0)).length≤(ptA _ _ _).size
  rw [qgf]
  exact Nat.le_refl _
 ·dsimp only;rw [qdi]
 ·dsimp only;rw [qdf,qba,r2]
 ·dsimp only
  rw [hff,qep _ h.file,qbh,f2]
  exact Or.inl ⟨l.ep,p.st,p.evs,Nat.lt_succ_self _,hn.few,h.c,h.cur⟩
 ·dsimp only
  rw [qec,qfi (by simpa using o2)]
  exact d2'
theorem actG_iv {n:Nat} {p:PP} {l:LG} (h:IV n p l) (hs:l.shut=false) (k:Int) (e:EV) (tx:ByteArray):IV (n + 1) (qig p l k e tx) (actG l k e tx).1:=by
 by_cases h0:k=0
 ·subst h0;exact addG_iv h hs e tx
 ·by_cases h1:k=1
  ·subst h1;exact syncG_iv h hs e tx
  ·exact pointG_iv h hs k h0 h1 e tx
def NP (f:FL) (c:CH):Prop:=(allL (qbs f c).s.data.toList).1=(allL (qbs f ⟨c.keep,⟨#[]⟩,c.reset⟩).s.data.toList).1
theorem qlk {ep:Nat} {st:ByteArray} {evs:List EV} (h:ptC ep st evs=0) (m:Nat):qdm zT 0 ((ptB ep st evs).take (m + 1))=⟨ep,st,evs.take m,(ptF ep st (evs.take m)).length⟩:=by
 have e:(ptB ep st evs).take (m + 1)=ptB ep st (evs.take m):=by unfold ptB;rw [List.take_succ_cons,qlj]
 rw [e]
 exact quw (quz h m)
theorem qll {f:FL} {ep:Nat} {st:ByteArray} {evs:List EV} (hc:ptC ep st evs=0) (hs:f.s.data.toList=ptF ep st evs) (c:CH) (hp:NP f c) :
 ∃ m,m≤evs.length + 1∧qai (qbs f c)=qdm zT 0 ((ptB ep st evs).take m)∧(f.half=false→∀ j,j≤evs.length→(ptF ep st (evs.take j)).length≤f.safe→j + 1≤m):=by
 have e0:qai (qbs f c)=qdm zT 0 (allL (qbs f ⟨c.keep,⟨#[]⟩,c.reset⟩).s.data.toList).1:=by unfold qai qdb;rw [hp]
 rw [e0]
 by_cases hr:(f.half && c.reset)=true
 ·refine ⟨0,Nat.zero_le _,?_,fun h=>by rw [h] at hr;cases hr⟩
  unfold qbs
  rw [if_pos hr]
  show qdm zT 0 (allL []).1=_
  rw [qkb]
  rfl
 ·have e1:(qbs f ⟨c.keep,⟨#[]⟩,c.reset⟩).s.data.toList=(ptF ep st evs).take (f.safe + min c.keep.toNat (f.s.size - f.safe)):=by
   unfold qbs
   rw [if_neg hr,←hs]
   simp [ByteArray.data_extract,List.extract_eq_take_drop]
  obtain ⟨m,h1,h2,h3,h4⟩:=qqd (ptB ep st evs) (f.safe + min c.keep.toNat (f.s.size - f.safe)) (ptB_few hc)
  have hl:(ptB ep st evs).length=evs.length + 1:=by unfold ptB;rw [List.length_cons,quu]
  refine ⟨m,by omega,?_,fun _ j hj hz=>?_⟩
  ·rw [e1]
   unfold ptF
   rw [h2]
  ·refine h4 (j + 1) (by omega) ?_
   have e:(ptB ep st evs).take (j + 1)=ptB ep st (evs.take j):=by unfold ptB;rw [List.take_succ_cons,qlj]
   rw [e]
   exact Nat.le_trans hz (Nat.le_add_right _ _)
def KeptP (p:PP) (st:ByteArray) (evs:List EV):Prop:=(p.lost=true∧st=p.torn∧evs=[])∨(st=p.st∧p.safe≤evs.length∧evs.length≤p.evs.length∧evs=p.evs.take evs.length)
theorem falls {n:Nat} {p:PP} {l:LG} (h:IV n p l) (hn:n≤40) (A B:CH) (hA:NP l.d.f0 A) (hB:NP l.d.f1 B) :
 ∃ f,CD (qia l.d A B) f (n + 2)∧KeptP p (qai ((qia l.d A B).get f)).st (qai ((qia l.d A B).get f)).evs:=by
 have hok:=bootD_ok h.ok A B
 have hC:∀ f,f=0∨f=1→∃ c,(qia l.d A B).get f=qbs (l.d.get f) c∧NP (l.d.get f) c:=by
  intro f hf
  rcases hf with rfl | rfl
  ·exact ⟨A,rfl,hA⟩
  ·exact ⟨B,rfl,hB⟩
 have hfl:(1 - l.file)=0∨(1 - l.file)=1:=by rcases h.file with e | e <;> rw [e] <;> simp
 have hff:1 - (1 - l.file)=l.file:=by rcases h.file with e | e <;> rw [e]
 obtain ⟨c1,q1,n1⟩:=hC _ h.file
 obtain ⟨c2,q2,n2⟩:=hC _ hfl
 have hroom:(qia l.d A B).room=900000:=h.room
 have few:=h.few
 have ep2:=h.ep2
 have ep1:=h.ep1
 have k1:=h.ok.get l.file
 have k2:=h.ok.get (1 - l.file)
 have s1:=qfp k1 c1
 have s2:=qfp k2 c2
 have z1:(l.d.get l.file).s.size=(ptF l.ep p.st p.evs).length:=by rw [←h.cur];simp
 have z2:=qeq h.c
 obtain ⟨m,m1,m2,m3⟩:=qll h.c h.cur c1 n1
 have m4:=m3 h.half p.safe h.safe h.kept
 obtain ⟨m,rfl⟩:∃ j,m=j + 1:=⟨m - 1,by omega⟩
 rw [qlk h.c m] at m2
 have hcm:=quz h.c m
 have lm:(p.evs.take m).length=m:=by rw [List.length_take];omega
 have first:(qai (qbs (l.d.get (1 - l.file)) c2)).ep < l.ep→∃ f,CD (qia l.d A B) f (n + 2)∧KeptP p (qai ((qia l.d A B).get f)).st (qai ((qia l.d A B).get f)).evs:=by
  intro hlt
  refine ⟨l.file,⟨hok,h.file,rfl,rfl,hroom,?_,?_,?_,?_,?_,?_⟩,?_⟩
  all_goals rw [q1]
  all_goals try rw [m2]
  ·exact hcm
  ·exact ep1
  ·show l.ep≤n + 2;omega
  ·show (p.evs.take m).length≤40;omega
  ·omega
  ·rw [q2];exact hlt
  ·exact Or.inr ⟨rfl,by show p.safe≤(p.evs.take m).length;omega,by show (p.evs.take m).length≤_;omega,by show p.evs.take m=p.evs.take (p.evs.take m).length;rw [lm]⟩
 rcases h.oth with ⟨ep,st,evs,g1,g2,g3,g4⟩ | g | ⟨g1,g2,g3⟩
 ·obtain ⟨j,j1,j2,-⟩:=qll g3 g4 c2 n2
  apply first
  rw [j2]
  rcases j with _ | j
  ·exact Nat.lt_of_lt_of_le Nat.zero_lt_one ep1
  ·rw [qlk g3 j]
   exact g1
 ·apply first
  have z3:(l.d.get (1 - l.file)).s.size=0:=by
   have:=congrArg List.length g
   simpa using this
  have z4:(qbs (l.d.get (1 - l.file)) c2).s.data.toList=[]:=by
   have:(qbs (l.d.get (1 - l.file)) c2).s.data.toList.length=(qbs (l.d.get (1 - l.file)) c2).s.size:=by simp
   exact List.eq_nil_of_length_eq_zero (by omega)
  unfold qai
  rw [z4,qif]
  exact Nat.lt_of_lt_of_le Nat.zero_lt_one ep1
 ·obtain ⟨j,j1,j2,-⟩:=qll g2 g3 c2 n2
  rcases j with _ | j
  ·apply first
   rw [j2]
   exact Nat.lt_of_lt_of_le Nat.zero_lt_one ep1
  ·rw [qlk g2 j] at j2
   have z3:(l.d.get (1 - l.file)).s.size=(ptF (l.ep + 1) p.torn []).length:=by rw [←g3];simp
   have z4:=qeq g2
   simp only [List.length_nil] at z4
   refine ⟨1 - l.file,⟨hok,hfl,rfl,rfl,hroom,?_,?_,?_,?_,?_,?_⟩,?_⟩
   all_goals rw [q2]
   all_goals try rw [j2]
   ·simpa using g2
   ·exact Nat.succ_le_succ (Nat.zero_le _)
   ·show l.ep + 1≤n + 2;omega
   ·simp
   ·omega
   ·rw [hff,q1,m2];exact Nat.lt_succ_self _
   ·exact Or.inl ⟨g1,rfl,by simp⟩
theorem keeps {n:Nat} {p:PP} {l:LG} (h:IV n p l) (hn:n≤40) (hs:l.shut=false) (ha:l.d.arm=0) :
 CD l.d l.file (n + 2)∧(qai (l.d.get l.file)).st=p.st∧(qai (l.d.get l.file)).evs=p.evs:=by
 obtain ⟨hsq,hl,hlost⟩:=h.live hs
 have ht:=qhf h.c h.cur
 have few:=h.few
 have ep2:=h.ep2
 have ep1:=h.ep1
 have z1:(l.d.get l.file).s.size=(ptF l.ep p.st p.evs).length:=by rw [←h.cur];simp
 have z2:=qeq h.c
 refine ⟨⟨h.ok,h.file,hl,ha,h.room,?_,?_,?_,?_,?_,?_⟩,?_,?_⟩
 all_goals try rw [ht]
 ·exact h.c
 ·exact ep1
 ·show l.ep≤n + 2;omega
 ·show p.evs.length≤40;omega
 ·omega
 ·rcases h.oth with ⟨ep,st,evs,g1,g2,g3,g4⟩ | g | ⟨g,-⟩
  ·rw [qhf g3 g4];exact g1
  ·unfold qai
   rw [g,qif]
   exact Nat.lt_of_lt_of_le Nat.zero_lt_one ep1
  ·rw [hlost] at g;cases g
theorem qsw {d:DK} (h:d.arm=0):d.off=false:=by unfold DK.off;rw [h];rfl
theorem qsx {d:DK} (h:d.arm=0) (f:Nat) (s:ByteArray):(appD d f s).arm=0:=by unfold appD;rw [qjd,qfz,h]
theorem qvc {d:DK} (h:d.arm=0) (f:Nat):(qcx d f).arm=0:=by unfold qcx;rw [if_neg (by rw [qsw h];simp),qjd,qfz,h]
theorem arm_reset {d:DK} (h:d.arm=0) (f:Nat):(qaw d f).arm=0:=by unfold qaw;rw [if_neg (by rw [qsw h];simp),qjd,qfz,h]
theorem shut_22 (l:LG) (d:DK) (h:l.shut=false) (ha:d.arm=0):(shutG l d 22).1.shut=false∧(shutG l d 22).1.d.arm=0:=⟨by unfold shutG;rw [h];rfl,ha⟩
theorem actG_arm {l:LG} (hs:l.shut=false) (hl:l.d.dead=false) (ha:l.d.arm=0) (k:Int) (e:EV) (tx:ByteArray):(actG l k e tx).1.shut=false∧(actG l k e tx).1.d.arm=0:=by
 unfold actG
 split
 ·unfold addG
  rw [if_neg (by rw [hs];simp)]
  split
  ·exact ⟨hs,ha⟩
  split
  ·exact ⟨hs,ha⟩
  rw [if_neg (by rw [hl];simp)]
  split
  ·exact ⟨hs,ha⟩
  rw [if_neg (by rw [qsw ha];simp)]
  exact ⟨hs,qsx ha _ _⟩
 split
 ·unfold qgo
  rw [if_neg (by rw [hs];simp),if_neg (by rw [hl];simp)]
  have:offC l.d=0:=by unfold offC;rw [if_neg (by rw [qsw ha];simp)]
  rw [this]
  exact ⟨by unfold shutG;rw [hs];rfl,qvc ha _⟩
 ·unfold qbt
  rw [if_neg (by rw [hs];simp)]
  split
  ·exact ⟨hs,ha⟩
  unfold layP
  split
  ·exact ⟨hs,ha⟩
  unfold layG
  have a1:=arm_reset ha (1 - l.file)
  rw [if_neg (by rw [hl];simp),if_neg (by rw [qsw ha];simp)]
  split
  ·exact shut_22 _ _ hs a1
  rw [if_neg (by rw [qsw a1];simp),if_neg (by rw [qsw (qsx a1 _ _)];simp)]
  exact ⟨hs,qvc (qsx a1 _ _) _⟩
def newD (room:Nat):DK:=⟨zF,zF,room,0,0,false⟩
theorem tellF_z:qai zF=zT:=qif
theorem open_new (first:ByteArray) (h:first.size≤18000):∃ l,qbz (newD 900000) first=⟨l,first,[],0⟩∧IV 0 (zP first) l∧l.shut=false∧l.d.arm=0:=by
 have hc:ptC 1 first []=0:=by
  have:recC (snR 1 first)=0:=by
   unfold recC
   rw [if_pos]
   unfold qoy qoz snR
   simp [h]
   rfl
  unfold ptC
  rw [if_neg (by rw [this];simp)]
  rfl
 have hz:=qeq hc
 simp only [List.length_nil] at hz
 have hok:(newD 900000).ok:=⟨Nat.le_refl _,Nat.le_refl _,by show 0 + 0≤900000;omega,by show 1≤900000;omega,by show 900000≤1000000;omega,Nat.zero_le _⟩
 obtain ⟨d',q1,q2,q3,q4,q5,q6,q7,q8,q9⟩:=layG_on (l:=⟨newD 900000,1,0,0,false⟩) hok (Or.inr rfl) rfl rfl (ptA 1 first []) (by
  rw [qgf]
  show 0 + _≤900000
  omega) 1 0
 dsimp only at q1 q5 q6 q7 q8 q9
 refine ⟨⟨d',0,1,0,false⟩,?_,⟨Or.inl rfl,q2,hc,?_,Nat.le_refl _,?_,q8,Nat.le_refl _,Nat.le_refl _,Nat.le_refl _,q5,?_,fun _=>⟨rfl,q3,rfl⟩⟩,rfl,q4⟩
 ·unfold qbz
  have e0:qai (newD 900000).f0=zT:=tellF_z
  have e1:qai (newD 900000).f1=zT:=tellF_z
  rw [if_neg (by show ¬ false=true;simp),e0,e1,if_pos ⟨rfl,rfl⟩]
  unfold layP
  rw [if_neg (by rw [hc];simp),List.length_nil,q1]
  rfl
 ·show (d'.get (1 - 1)).s.data.toList=_
  rw [q7]
  exact qih _ _
 ·show _≤(d'.get (1 - 1)).safe
  rw [q9,qgf]
  exact Nat.le_refl _
 ·show OT 0 (zP first) _ (d'.get 1).s.data.toList
  rw [q6]
  exact Or.inr (Or.inl rfl)
end Go.Proofs.YtjkecckndfcbjaaGreatDoor
