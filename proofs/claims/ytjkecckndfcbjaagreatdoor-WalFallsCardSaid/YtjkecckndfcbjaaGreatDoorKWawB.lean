/- Texts that the law leans on. -/
import Derived.Test.YtjkecckndfcbjaaGreatDoorKOpnA
import Derived.Test.YtjkecckndfcbjaaGreatDoorKErrA
import Derived.Test.YtjkecckndfcbjaaGreatDoorKLftA
namespace Go.Proofs.YtjkecckndfcbjaaGreatDoor
open Go.RowKit Go.Sort Crc Nb
set_option maxRecDepth 100000
set_option maxHeartbeats 4000000 in
theorem qmq (w:World) (hg:Glob w) :
 Calls Tryz.prog 7 #[] w fun e w'=>e=.returned (.bool true)∧Below w.heap.size w w':=by
 have HN:=hI (qlm 1000 w (by omega) (by omega))
 have HGL:=hI (fun (W:World) (hb:Below w.heap.size w W)=>hg.below hb)
 clear hg
 go_enter Tryz.func7,Tryz.ntmps7
 go_wp2_with fail
 refine HN.out.mono ?_
 rintro e w1 ⟨g,hgw,rfl,hd1,hb1⟩
 have D1:Hid (DAt w1 g (newD 1000)):=hd1
 have HB1:=hI hb1
 clear hd1 hb1 HN
 go_wp2_with fail
 refine (qfe (newD 1000) g fstB w1 (HGL.out w1 HB1.out) D1.out qtb (by decide)).mono ?_
 rintro e w2 hx
 obtain ⟨h,A2,c2,rfl,hh,x2,b2⟩:=aw1_open hx
 have hhw:w.heap.size≤h:=Nat.le_trans HB1.out.size hh
 have X2:=hI x2
 have HB2:=hI ((b2.left g).below HB1.out hgw hgw HB1.out.size)
 clear hx x2 b2 hh D1
 go_wp2_with (go_at_call 27;refine (tick_any _).mono ?_;rintro e w3 ⟨rfl,hb3⟩;have X3:=hI (X2.out.below hb3);have HB3:=hI (qac HB2.out hb3);clear hb3)
 refine (qov aw1.l h g (3,⟨#[]⟩) w3 (HGL.out w3 HB3.out) X3.out qvd.1 (by have:=qvd.2.1;omega) qvd.2.2.1 (by have:=qvd.2.2.2.1;omega) (by decide)).mono ?_
 rintro e w4 ⟨he,x4,b4⟩
 obtain rfl:=erL_0 he aw2_all
 have X4:Hid (LAt w4 h g aw2.1):=x4
 have HB4:=hI (b4.below HB3.out hgw hhw HB3.out.size)
 clear he x4 b4 X3 X2
 go_wp2_with fail
 refine (qrh aw2.1 h g w4 X4.out aw2_ok.1 (by have:=aw2_ok.2.1;omega) aw2_ok.2.2.1).mono ?_
 rintro e w5 ⟨he,x5,b5⟩
 obtain rfl:=erL_0 he aw3_all
 have X5:Hid (LAt w5 h g aw3.1):=x5
 have HB5:=hI (b5.below HB4.out hgw hhw HB4.out.size)
 clear he x5 b5 X4
 go_wp2_with fail
 refine (qov aw3.1 h g (0,⟨#[]⟩) w5 (HGL.out w5 HB5.out) X5.out qve.1 (by have:=qve.2.1;omega) qve.2.2.1 (by have:=qve.2.2.2.1;omega) (by decide)).mono ?_
 rintro e w6 ⟨he,x6,b6⟩
 obtain ⟨t9,u9,ops9,rfl,hv9⟩:=erL_n he (by show aw4.2≠0;rw [qsz.1];decide)
 have HV6:Hid (ErrV w6 ops9 ((2:Nat):Int) (.iface t9 u9)):=by rw [←qsz.1];exact hv9
 have X6:Hid (LAt w6 h g aw4.1):=x6
 have HB6:=hI (b6.below HB5.out hgw hhw HB5.out.size)
 have hl6:h < w6.heap.size:=x6.lth
 clear he x6 b6 X5 hv9
 go_wp2_with fail
 refine (qfe aw4.1.d g othB w6 (HGL.out w6 HB6.out) X6.out.dsk aw4_ok.1 (by have:=aw4_ok.2.1;omega)).mono ?_
 rintro e w7 hx
 obtain ⟨h2,A7,c7,rfl,hh2,x7,b7⟩:=aw5_open hx
 have hne:h≠h2:=by omega
 have hhw2:w.heap.size≤h2:=by omega
 have X7:=hI x7
 have XL7:=hI (X6.out.other (b7.left h2) hne x7.dsk)
 have HV7:=hI (HV6.out.but b7 X6.out.dsk.noFlt)
 have HB7:=hI ((b7.left g).below HB6.out hgw hgw HB6.out.size)
 clear hx x7 b7 X6 HV6 hh2 hl6
 go_wp2_with fail
 refine (qnj aw5l h2 g nxtB w7 (HGL.out w7 HB7.out) X7.out aw5_ok.1 (by have:=aw5_ok.2.1;omega) aw5_ok.2.2.1 (by decide)).mono ?_
 rintro e w8 ⟨he,x8,b8⟩
 obtain rfl:=erL_0 he qta.1
 have X8:Hid (LAt w8 h2 g aw6l.1):=x8
 have XL8:=hI (XL7.out.other b8 hne x8.dsk)
 have HV8:=hI (HV7.out.but2 b8 X7.out.dsk.noFlt X7.out.noFlt)
 have HB8:=hI (b8.below HB7.out hgw hhw2 HB7.out.size)
 clear he x8 b8 X7 XL7 HV7
 go_wp2_with fail
 refine (qfe aw6l.1.d g othB w8 (HGL.out w8 HB8.out) X8.out.dsk aw6_ok.1 (by have:=aw6_ok.2.1;omega)).mono ?_
 rintro e w9 hx
 have hx':qyl g aw7 w8 e w9:=by unfold aw7;rw [aw6_eq];exact hx
 obtain ⟨l9,h3,A9,c9,rfl,hh3,x9,b9⟩:=aw7_open hx'
 have XM9:=hI (X8.out.disk b9 x9.dsk)
 have XL9:=hI (XL8.out.other (b9.left h2) hne x9.dsk)
 have HV9:=hI (HV8.out.but b9 X8.out.dsk.noFlt)
 have HB9:=hI ((b9.left g).below HB8.out hgw hgw HB8.out.size)
 clear hx hx' x9 b9 X8 XL8 HV8 hh3
 go_wp2_with fail
 refine (qgh ops9 2 _ w9 (HGL.out w9 HB9.out) HV9.out).mono ?_
 rintro e wa ⟨rfl,hba⟩
 have XMa:=hI (XM9.out.below hba)
 have XLa:=hI (XL9.out.below hba)
 have HBa:=hI (qac HB9.out hba)
 clear hba XM9 XL9 HV9
 have HS1:Hid (Calls Tryz.prog 14 #[.pointer (some ⟨h,0,none⟩)] wa fun e w'=>e=.returned (.int .i64 1)∧wa=w'):=by
  have:=qtw _ h g wa XLa.out
  rw [show ({ aw4.1 with d:=l9.d }:LG).sq=1 from qsz.2] at this
  exact this
 have HS2:Hid (Calls Tryz.prog 14 #[.pointer (some ⟨h2,0,none⟩)] wa fun e w'=>e=.returned (.int .i64 0)∧wa=w'):=by
  have:=qtw _ h2 g wa XMa.out
  rw [show ({ aw6l.1 with d:=l9.d }:LG).sq=0 from qta.2.2] at this
  exact this
 have HE2:Hid (Calls Tryz.prog 30 #[.pointer (some ⟨h2,0,none⟩)] wa fun e w'=>e=.returned (.int .i64 2)∧wa=w'):=by
  have:=epoch_any _ h2 g wa XMa.out
  rw [show ({ aw6l.1 with d:=l9.d }:LG).ep=2 from qta.2.1] at this
  exact this
 have HCN:=hI (qpo wa)
 have HSN:=hI (qri wa)
 clear XMa XLa
 go_wp2_with fail
 refine HS1.out.mono ?_
 rintro _ _ ⟨rfl,rfl⟩
 go_wp2_with fail
 refine HE2.out.mono ?_
 rintro _ _ ⟨rfl,rfl⟩
 go_wp2_with fail
 refine HS2.out.mono ?_
 rintro _ _ ⟨rfl,rfl⟩
 go_wp2_with fail
 refine HCN.out.mono ?_
 rintro _ _ ⟨rfl,rfl⟩
 go_wp2_with fail
 refine HSN.out.mono ?_
 rintro e wb ⟨v,rfl,hc,hbb⟩
 have HBb:=hI (qac HBa.out hbb)
 have HCb:=hI hc
 clear hc hbb HS1 HS2 HE2 HCN HSN
 go_wp2_with fail
 refine (qgh [logW] 1 v wb (HGL.out wb HBb.out) (Or.inr ⟨by decide,HCb.out⟩)).mono ?_
 rintro e wc ⟨rfl,hbc⟩
 have HBc:=hI (qac HBb.out hbc)
 clear hbc
 go_wp2
 go_ret
 exact ⟨rfl,HBc.out⟩
end Go.Proofs.YtjkecckndfcbjaaGreatDoor
namespace Go.Proofs.YtjkecckndfcbjaaGreatDoor
open Nb Crc
set_option maxRecDepth 100000
theorem outG_lv {o:Nat} {x:LG×Nat} (h:LV o x.1) (st:ByteArray) (evs:List EV):LV o (outG x st evs).l:=by
 unfold outG
 split
 ·exact ⟨h.ok,Or.inl rfl,Nat.zero_le _,Nat.zero_le _,h.ops⟩
 ·exact h
theorem qpq {o:Nat} {d:DK} (hok:d.ok) (ho:d.ops≤o) (e:Nat):LV o (qge d e).l:=⟨hok,Or.inl rfl,Nat.zero_le _,Nat.zero_le _,ho⟩
theorem qxe {o:Nat} {d:DK} (hok:d.ok) (ho:d.ops≤o) (x:ByteArray):LV (o + 3) (qbz d x).l:=by
 have hs0:d.f0.s.size≤1000000:=by have:=hok.fit;have:=hok.room;omega
 have hs1:d.f1.s.size≤1000000:=by have:=hok.fit;have:=hok.room;omega
 obtain ⟨a1,-,a3⟩:=qdd d.f0 hs0
 obtain ⟨b1,-,b3⟩:=qdd d.f1 hs1
 have hF:∀ (f:Nat) (t:TL),f=0∨f=1→t.evs.length≤200000→t.ep≤1000000→LV (o + 3) (qdw d f t).l:=by
  intro f t hf h1 h2
  unfold qdw
  split
  ·exact ⟨hok,hf,h2,by show t.evs.length≤_;omega,by show d.ops≤_;omega⟩
  split
  ·exact qpq hok (by omega) _
  ·exact outG_lv (qtl (o:=o) ⟨hok,hf,h2,by show t.evs.length≤_;omega,ho⟩ (by omega) _ (by omega)) _ _
 unfold qbz
 split
 ·exact qpq hok (by omega) _
 split
 ·exact outG_lv (qtl (o:=o) ⟨hok,Or.inr rfl,Nat.zero_le _,Nat.zero_le _,ho⟩ (by omega) _ (by simp)) _ _
 split
 ·exact qpq hok (by omega) _
 split
 ·exact hF 0 _ (Or.inl rfl) a1 a3
 ·exact hF 1 _ (Or.inr rfl) b1 b3
theorem qmr (n:Nat) (h1:1≤n) (h2:n≤1000000):(newD n).ok:=⟨Nat.le_refl _,Nat.le_refl _,Nat.zero_le _,h1,h2,Nat.zero_le _⟩
def KD (n:Nat) (S:PP) (k:Nat) (D:DK):Prop:=∃ f,CD D f (n + 2 + k)∧(qai (D.get f)).st=S.st∧(qai (D.get f)).evs=S.evs∧D.ops≤1000 + 3 * k
theorem KD.opens {n k:Nat} {S:PP} {D:DK} (h:KD n S k D) (hn:n + k≤1000) (x:ByteArray):∃ l,qbz D x=⟨l,S.st,S.evs,0⟩∧l.sq=S.evs.length∧KD n S (k + 1) l.d:=by
 obtain ⟨f,h1,h2,h3,h4⟩:=h
 have hlv:=qxe h1.ok h4 x
 obtain ⟨l,g1,g2,f',g3,g4,g5⟩:=open_cd h1 (by omega) x
 rw [h2,h3] at g1
 rw [g1] at hlv
 exact ⟨l,g1,by rw [g2,h3],f',g3,g4.trans h2,g5.trans h3,by have:=hlv.ops;dsimp only at this;omega⟩
theorem KD.ok {n k:Nat} {S:PP} {D:DK} (h:KD n S k D):D.ok:=by obtain ⟨f,h1,-⟩:=h;exact h1.ok
theorem KD.ops {n k:Nat} {S:PP} {D:DK} (h:KD n S k D):D.ops≤1000 + 3 * k:=by obtain ⟨f,-,-,-,h4⟩:=h;exact h4
theorem qxf (first:ByteArray) (h:first.size≤18000):∃ l,qbz (newD 900000) first=⟨l,first,[],0⟩∧DV 0 3 (zP first,l)∧l.shut=false∧l.d.arm=0:=by
 obtain ⟨l,h1,h2,h3,h4⟩:=open_new first h
 have hlv:=qxe (o:=0) (qmr 900000 (by omega) (by omega)) (Nat.le_refl 0) first
 rw [h1] at hlv
 exact ⟨l,h1,⟨h2,hlv.ops⟩,h3,h4⟩
theorem keeps_kd {first:ByteArray} {l:LG} (h:DV 0 3 (zP first,l)) (h1:l.shut=false) (h2:l.d.arm=0) (la:List AC) (hn:la.length≤40):KD la.length (runD (zP first,l) la).1 0 (runD (zP first,l) la).2.d:=by
 have hd:=qlx h la (by omega)
 rw [Nat.zero_add] at hd
 obtain ⟨a1,a2⟩:=runD_arm h h1 h2 la (by omega)
 obtain ⟨k1,k2,k3⟩:=keeps hd.iv hn a1 a2
 exact ⟨_,k1,k2,k3,by have:=hd.ops;omega⟩
end Go.Proofs.YtjkecckndfcbjaaGreatDoor
namespace Go.Proofs.YtjkecckndfcbjaaGreatDoor
open Nb Crc
set_option maxRecDepth 100000
def armL (l:LG) (k:Nat):LG:={ l with d:={ l.d with arm:=k } }
theorem IV.armed {n:Nat} {p:PP} {l:LG} (h:IV n p l) {k:Nat} (hk:k≤1000000):IV n p (armL l k) :=
 ⟨h.file,⟨h.ok.a,h.ok.b,h.ok.fit,h.ok.one,h.ok.room,hk⟩,h.c,h.cur,h.safe,h.kept,h.half,h.ep1,h.ep2,h.few,h.room,h.oth,h.live⟩
theorem first_arm {first:ByteArray} {l:LG} (h:DV 0 3 (zP first,l)) {k:Nat} (hk:k≤1000000):DV 0 3 (zP first,armL l k):=⟨h.iv.armed hk,h.ops⟩
theorem falls_kd {first:ByteArray} {l:LG} (h:DV 0 3 (zP first,l)) (la:List AC) (hn:la.length≤40) (A B:CH) (hA:NP (runD (zP first,l) la).2.d.f0 A) (hB:NP (runD (zP first,l) la).2.d.f1 B) :
 ∃ S:PP,KeptP (runD (zP first,l) la).1 S.st S.evs∧S.evs.length≤100∧KD la.length S 0 (qia (runD (zP first,l) la).2.d A B):=by
 have hd:=qlx h la (by omega)
 rw [Nat.zero_add] at hd
 obtain ⟨f,h1,h2⟩:=falls hd.iv hn A B hA hB
 refine ⟨⟨_,_,0,⟨#[]⟩,false⟩,h2,?_,f,h1,rfl,rfl,?_⟩
 ·exact Nat.le_trans h1.few (by omega)
 ·have:=hd.ops
  show (runD (zP first,l) la).2.d.ops≤_
  omega
theorem few_pp {first:ByteArray} {l:LG} (h:DV 0 3 (zP first,l)) (la:List AC) (hn:la.length≤40):(runD (zP first,l) la).1.evs.length≤100∧(runD (zP first,l) la).1.safe≤1000∧(runD (zP first,l) la).2.d.ok∧(runD (zP first,l) la).2.d.ops≤1000:=by
 have hd:=qlx h la (by omega)
 rw [Nat.zero_add] at hd
 have h1:=hd.iv.few
 have h2:=hd.iv.safe
 have h3:=hd.ops
 exact ⟨by omega,by omega,hd.iv.ok,by omega⟩
end Go.Proofs.YtjkecckndfcbjaaGreatDoor
