/- Texts that the law leans on. -/
import Derived.Test.YtjkecckndfcbjaaGreatDoorKLogA
import Derived.Test.YtjkecckndfcbjaaGreatDoorKDskD
namespace Go.Proofs.YtjkecckndfcbjaaGreatDoor
open Go.RowKit Go.Sort Crc Nb
set_option maxRecDepth 100000
def qcp (a b:Nat):Int×Nat:=if a=0∧b=0 then (-1,0) else if a=b then (0,23) else if b < a then (0,0) else (1,0)
theorem qyk (s t:TL) (u v:Value) (p q:Bool) (w:World) :
 Calls Tryz.prog 36 #[.agg (qav s u p),.agg (qav t v q)] w fun e w'=>∃ x,e=.returned (.tuple #[.int .i64 (qcp s.ep t.ep).1,x])∧ErrV w' (if (qcp s.ep t.ep).2=0 then [] else [logW]) ((qcp s.ep t.ep).2:Int) x∧Below w.heap.size w w':=by
 have HW:=hI (fun (W:World)=>qft 23 W (by omega))
 have HB:=hI (qab (bel1 w (.cells (qav s u p) 87)) (.cells (qav t v q) 87))
 unfold qav at *
 obtain ⟨a,sa,sb,sc⟩:=s
 obtain ⟨b,ta,tb,tc⟩:=t
 dsimp only at *
 by_cases h0:a=0∧b=0
 ·obtain ⟨rfl,rfl⟩:=h0
  have HQ:Hid (qcp 0 0=(-1,0)):=rfl
  rw [HQ.out]
  go_enter Tryz.func36,Tryz.ntmps36
  go_wp2
  refine bodyPost_ret (v:=.tuple #[.int .i64 (-1),.nilIface]) (by simp [results,Tryz.results36,go_sem]) rfl ⟨_,rfl,Or.inl ⟨rfl,rfl,rfl⟩,HB.out⟩
 ·by_cases h1:a=b
  ·have HQ:Hid (qcp a b=(0,23)):=by show _=_;unfold qcp;rw [if_neg h0,if_pos h1]
   rw [HQ.out]
   subst h1
   have h2:((a:Int) == 0)=false:=by simp;omega
   clear h0 HQ
   go_enter Tryz.func36,Tryz.ntmps36
   go_wp2_with (go_at_call 38;refine (HW.out _).mono ?_;rintro e w3 ⟨x,rfl,hch,hb3⟩;have HCH:=hI hch;have HB3:=hI (qac HB.out hb3);clear hch hb3)
   refine bodyPost_ret (v:=.tuple #[.int .i64 0,x]) (by simp [results,Tryz.results36,go_sem]) rfl ⟨_,rfl,Or.inr ⟨by decide,HCH.out⟩,HB3.out⟩
  ·have h1':((a:Int) == (b:Int))=false:=by simp;omega
   by_cases h2:b < a
   ·have HQ:Hid (qcp a b=(0,0)):=by show _=_;unfold qcp;rw [if_neg h0,if_neg h1,if_pos h2]
    rw [HQ.out]
    have h3:((a:Int) == 0)=false:=by simp;omega
    clear h0 HQ h1
    go_enter Tryz.func36,Tryz.ntmps36
    go_wp2
    refine bodyPost_ret (v:=.tuple #[.int .i64 0,.nilIface]) (by simp [results,Tryz.results36,go_sem]) rfl ⟨_,rfl,Or.inl ⟨rfl,rfl,rfl⟩,HB.out⟩
   ·have HQ:Hid (qcp a b=(1,0)):=by show _=_;unfold qcp;rw [if_neg h0,if_neg h1,if_neg h2]
    rw [HQ.out]
    have h3:((b:Int) == 0)=false:=by simp;omega
    have h4:decide (b < a)=false:=decide_eq_false h2
    clear h0 HQ h1
    by_cases ha:a=0
    ·subst ha
     go_enter Tryz.func36,Tryz.ntmps36
     go_wp2
     refine bodyPost_ret (v:=.tuple #[.int .i64 1,.nilIface]) (by simp [results,Tryz.results36,go_sem]) rfl ⟨_,rfl,Or.inl ⟨rfl,rfl,rfl⟩,HB.out⟩
    ·have h5:((a:Int) == 0)=false:=by simp;omega
     go_enter Tryz.func36,Tryz.ntmps36
     go_wp2
     refine bodyPost_ret (v:=.tuple #[.int .i64 1,.nilIface]) (by simp [results,Tryz.results36,go_sem]) rfl ⟨_,rfl,Or.inl ⟨rfl,rfl,rfl⟩,HB.out⟩
def qyl (g:Nat) (x:OG) (w:World) (e:Ending) (w':World):Prop :=
 (x.e≠0∧(∃ v ops,e=.returned (.tuple #[.pointer none,.string ⟨#[]⟩,.slice none 0 0,v])∧ErrV w' ops (x.e:Int) v)∧DAt w' g x.l.d∧But g w w') ∨
 (x.e=0∧∃ h v,e=.returned (.tuple #[.pointer (some ⟨h,0,none⟩),.string x.st,v,.nilIface])∧w.heap.size≤h∧LAt w' h g x.l∧w'.ownsRow w.heap.size 56 2 v (evA x.evs).size (flatK qbm 2 (evA x.evs)).toList∧But g w w')
theorem But2.one {g h:Nat} {w w1 w2:World} (hb:But g w w1) (x:But2 g h w1 w2) (hh:w.heap.size≤h):But g w w2 :=
 ⟨x.os.trans hb.os,x.tape.trans hb.tape,x.output.trans hb.output,Nat.le_trans hb.size x.size,fun k hk hg=>(x.block k (Nat.lt_of_lt_of_le hk hb.size) hg (by omega)).trans (hb.block k hk hg)⟩
theorem qkm {w w':World} {g h B s n:Nat} {e:TypeId} {v:Value} {xs:List Value} (hr:w.ownsRow B e s v n xs) (x:But2 g h w w') (hg:g < B) (hh:v.ownBlock≠some h):w'.ownsRow B e s v n xs:=by
 obtain ⟨h0,h1 | ⟨b,cap,cur,hv,hB,hk,hrr⟩⟩:=hr
 ·exact ⟨h0,Or.inl h1⟩
 ·refine ⟨h0,Or.inr ⟨b,cap,cur,hv,hB,(x.block b (qaa hk) (by omega) (fun e=>hh (by rw [hv,←e];rfl))).trans hk,hrr⟩⟩
end Go.Proofs.YtjkecckndfcbjaaGreatDoor
namespace Go.Proofs.YtjkecckndfcbjaaGreatDoor
open Go.RowKit Go.Sort Crc Nb
set_option maxRecDepth 100000
def qhb (s t:TL) (u v:Value) (p q:Bool):Array Value:=#[.int .i64 (s.ep:Int),.string s.st,u,.bool p,.int .i64 (t.ep:Int),.string t.st,v,.bool q]
def qF (f:FL):Bool:=decide ((qai f).n=f.s.size)
def RowF (w W:World) (f:FL) (v:Value):Prop:=W.ownsRow (w.heap.size + 1) 56 2 v (evA (qai f).evs).size (flatK qbm 2 (evA (qai f).evs)).toList
def FilesW (w:World) (d:DK) (k:Nat) (W:World):Prop :=
 (k=0∧W.heap[w.heap.size]?=some (.cells (qhb zT zT (.slice none 0 0) (.slice none 0 0) false false) 88 (0,0))) ∨
 (k=1∧∃ A c,W.heap[w.heap.size]?=some (.cells (qhb (qai d.f0) zT (.slice A (evA (qai d.f0).evs).size c) (.slice none 0 0) (qF d.f0) false) 88 (0,0))∧RowF w W d.f0 (.slice A (evA (qai d.f0).evs).size c)) ∨
 (k=2∧∃ A c B b,W.heap[w.heap.size]?=some (.cells (qhb (qai d.f0) (qai d.f1) (.slice A (evA (qai d.f0).evs).size c) (.slice B (evA (qai d.f1).evs).size b) (qF d.f0) (qF d.f1)) 88 (0,0))∧RowF w W d.f0 (.slice A (evA (qai d.f0).evs).size c)∧RowF w W d.f1 (.slice B (evA (qai d.f1).evs).size b))
theorem qwk {P:EV→Prop} (hP:∀ b:List UInt8,rtC b=0→P ((recO b).k,(recO b).dt)):∀ (l:List (List UInt8)) (t:TL) (i:Nat),(∀ e ∈ t.evs,P e)→t.ep≤1000000→(∀ e ∈ (qdm t i l).evs,P e)∧(qdm t i l).ep≤1000000
 | [],t,i,h,h'=>⟨h,h'⟩
 | b :: l,t,i,h,h'=>by
   by_cases hn:qhl t i b=true
   ·rw [qet hn]
    have h0:rtC b=0:=by unfold qhl at hn;simp only [Bool.and_eq_true,decide_eq_true_eq] at hn;exact hn.1.1
    refine qwk hP l _ _ ?_ ?_
    ·unfold qjc
     split
     ·exact h
     ·intro e he
      rcases List.mem_append.1 he with he | he
      ·exact h e he
      ·obtain rfl:=List.mem_singleton.1 he
       exact hP b h0
    ·unfold qjc
     split
     ·obtain ⟨-,h2,-⟩:=rtC_ok h0
      have:=qgi h2
      show (recO b).ep.toNat≤1000000
      omega
     ·exact h'
   ·rw [qby (by simpa using hn)]
    exact ⟨h,h'⟩
theorem qdd (f:FL) (hs:f.s.size≤1000000):(qai f).evs.length≤200000∧(∀ e ∈ (qai f).evs,e.2.size≤1000000)∧(qai f).ep≤1000000:=by
 have h1:=qhk f.s.data.toList
 have e1:f.s.data.toList.length=f.s.size:=by simp
 have h2:=qiw (allL f.s.data.toList).1 zT 0
 have h3:=qwk (P:=fun e=>e.2.size≤1000000) (fun b hb=>by
  obtain ⟨-,h2,-⟩:=rtC_ok hb
  obtain ⟨-,-,-,-,hT,hF⟩:=qgi h2
  show (recO b).dt.size≤1000000
  cases hsn:(recO b).sn
  ·have:=(hF hsn).2.2.1;omega
  ·rw [(hT hsn).2.1];decide) (allL f.s.data.toList).1 zT 0 (fun e he=>by cases he) (by decide)
 refine ⟨?_,h3.1,h3.2⟩
 have h4:zT.evs.length=0:=rfl
 show (qdm zT 0 (allL f.s.data.toList).1).evs.length≤200000
 omega
theorem erL_v {c:Nat} {e:Ending} {w:World} (h:ErL c e w):∃ v,e=.returned v∧((c=0∧v=.nilIface)∨(c≠0∧(∃ t u,v=.iface t u)∧∃ ops,ErrV w ops (c:Int) v)):=by
 obtain ⟨v,ops,rfl,hv⟩:=h
 refine ⟨v,rfl,?_⟩
 rcases hv with ⟨h0,-,rfl⟩ | ⟨h0,hc⟩
 ·exact Or.inl ⟨by omega,rfl⟩
 ·exact Or.inr ⟨by omega,qar hc,ops,Or.inr ⟨h0,hc⟩⟩
theorem FilesW.lt {w W:World} {d:DK} {k:Nat} (h:FilesW w d k W):w.heap.size < W.heap.size:=by
 rcases h with ⟨-,h⟩ | ⟨-,_,_,h,-⟩ | ⟨-,_,_,_,_,h,-,-⟩ <;> exact qaa h
theorem qdu {W:World} {B:Nat} {v:Value} {l:List EV} (h:W.ownsRow B 56 2 v (evA l).size (flatK qbm 2 (evA l)).toList):∃ A c,v=.slice A (evA l).size c:=by
 obtain ⟨A,c,e,-,-⟩:=qbj h
 exact ⟨A,c,e⟩
theorem set4 {W:World} {g:Nat} {cs:Array Value} {t:TypeId} (h:W.heap[g]?=some (.cells cs t (0,0))) (i:Nat) (a b c d:Value):((((W.setCell ⟨g,i,none⟩ a).setCell ⟨g,i + 1,none⟩ b).setCell ⟨g,i + 2,none⟩ c).setCell ⟨g,i + 3,none⟩ d).heap[g]?=some (.cells ((((cs.setIfInBounds i a).setIfInBounds (i + 1) b).setIfInBounds (i + 2) c).setIfInBounds (i + 3) d) t (0,0)) :=
 qae (qae (qae (qae h _ _) _ _) _ _) _ _
theorem qpc {W:World} {B g n:Nat} {v:Value} {e:TypeId} {k:Nat} {xs:List Value} (h:W.ownsRow B e k v n xs) (hg:g < B) (i:Nat) (a b c d:Value):((((W.setCell ⟨g,i,none⟩ a).setCell ⟨g,i + 1,none⟩ b).setCell ⟨g,i + 2,none⟩ c).setCell ⟨g,i + 3,none⟩ d).ownsRow B e k v n xs :=
 qey (qey (qey (qey h hg _ _) hg _ _) hg _ _) hg _ _
theorem qwl {w W:World} {g:Nat} (h:Below w.heap.size w W) (hg:w.heap.size≤g) (i:Nat) (a b c d:Value):Below w.heap.size w ((((W.setCell ⟨g,i,none⟩ a).setCell ⟨g,i + 1,none⟩ b).setCell ⟨g,i + 2,none⟩ c).setCell ⟨g,i + 3,none⟩ d) :=
 (((h.setCell (p:=⟨g,i,none⟩) hg a).setCell (p:=⟨g,i + 1,none⟩) hg b).setCell (p:=⟨g,i + 2,none⟩) hg c).setCell (p:=⟨g,i + 3,none⟩) hg d
theorem qrs {W:World} {g:Nat} {a b c d e f x y:Value} {t:TypeId} (h:W.heap[g]?=some (.cells #[a,b,c,d,e,f,x,y] t (0,0))) :
 W.cell? ⟨g,0,none⟩=some a∧W.cell? ⟨g,1,none⟩=some b∧W.cell? ⟨g,2,none⟩=some c∧W.cell? ⟨g,3,none⟩=some d∧W.cell? ⟨g,4,none⟩=some e∧W.cell? ⟨g,5,none⟩=some f∧W.cell? ⟨g,6,none⟩=some x∧W.cell? ⟨g,7,none⟩=some y:=by
 refine ⟨?_,?_,?_,?_,?_,?_,?_,?_⟩ <;> (rw [qad h];rfl)
set_option maxHeartbeats 8000000 in
theorem qfe (d:DK) (g:Nat) (first:ByteArray) (w:World) (hg:Glob w) (h:DAt w g d) (hok:d.ok) (ho:d.ops≤999999980) :
 Calls Tryz.prog 10 #[.pointer (some ⟨g,0,none⟩),.string first] w (qyl g (qbz d first) w):=by
 have HRE:=hI (fun (W:World) (i:Int) (hb:Below w.heap.size w W)=>qje d g i W (h.below hb) hok)
 have HWR:=hI (fun (W:World) (v:Value) (hv:Chain W [qie] 20 v)=>qdr logW [qie] 20 v W hv)
 have hs0:d.f0.s.size≤1000000:=by have:=hok.fit;have:=hok.room;omega
 have hs1:d.f1.s.size≤1000000:=by have:=hok.fit;have:=hok.room;omega
 have HD:=hI h
 have HB0:Hid (Below w.heap.size w (w.alloc (.cells (qhb zT zT (.slice none 0 0) (.slice none 0 0) false false) 88))):=bel1 w _
 cases hdd:d.dead
 rotate_left
 ·have HQ:Hid (qbz d first=qge d 20):=by show _=_;unfold qbz;rw [if_pos hdd]
  rw [HQ.out]
  have hq:qdz d 0=(⟨#[]⟩,20):=by unfold qdz DK.up;rw [hdd];rfl
  have HRD:=hI (HRE.out _ 0 HB0.out)
  rw [hq] at HRD
  clear hq HQ hs0 hs1 hg h hok HRE
  unfold qhb zT at *
  dsimp only at *
  go_enter Tryz.func10,Tryz.ntmps10
  go_wp2
  obtain ⟨wz,hwz⟩:∃ W,w.alloc (.cells #[.int .i64 0,.string ⟨#[]⟩,.slice none 0 0,.bool false,.int .i64 0,.string ⟨#[]⟩,.slice none 0 0,.bool false] 88)=W:=⟨_,rfl⟩
  have HRD2:Hid (Calls Tryz.prog 33 #[.pointer (some ⟨g,0,none⟩),.int .i64 0] wz fun e w'=>∃ v,e=.returned (.tuple #[.string ⟨#[]⟩,v])∧ErrV w' [qie] 20 v∧Below wz.heap.size wz w'):=by rw [←hwz];exact HRD.out
  have HBZ:Hid (Below w.heap.size w wz):=by rw [←hwz];exact HB0.out
  rw [hwz]
  clear hwz HRD HB0
  go_loopw [16] (fun iv wr=>iv=.int .i64 0∧wr=wz) (fun _ _=>1)
  case atStart=>exact ⟨rfl,rfl⟩
  case round =>
   obtain ⟨rfl,rfl⟩:=hrel
   go_wp2_with (first | (go_at_call 33;refine HRD2.out.mono ?_;rintro e w2 ⟨v,rfl,hv,hb2⟩;(have hch:=qdn hv (by decide));obtain ⟨t1,u1,rfl⟩:∃ t u,v=.iface t u:=qar hch;have HW2:=hI (HWR.out w2 _ hch);have HB2:=hI (qac HBZ.out hb2);clear hv hch hb2) | (go_at_call 34;refine HW2.out.mono ?_;rintro e w3 ⟨v,rfl,hch,hb3⟩;have HCH:=hI hch;have HB3:=hI (qac HB2.out hb3);clear hch hb3))
   refine bodyPost_ret (v:=.tuple #[.pointer none,.string ⟨#[]⟩,.slice none 0 0,v]) (by simp [results,Tryz.results10,go_sem]) rfl ?_
   exact Or.inl ⟨show (20:Nat)≠0 by decide,⟨v,_,rfl,Or.inr ⟨show ((20:Nat):Int)≠0 by decide,HCH.out⟩⟩,HD.out.below HB3.out,But.of HB3.out⟩
 obtain ⟨G,hG⟩:∃ G,qbz d first=G:=⟨_,rfl⟩
 rw [hG]
 have HGE:Hid (G=if (qai d.f0).ep=0∧(qai d.f1).ep=0 then outG (layP ⟨d,1,0,0,false⟩ 1 first []) first [] else if (qai d.f0).ep=(qai d.f1).ep then qge d 23 else if (qai d.f1).ep < (qai d.f0).ep then qdw d 0 (qai d.f0) else qdw d 1 (qai d.f1)):=by
  show _=_
  rw [←hG]
  unfold qbz
  rw [if_neg (by rw [hdd];simp)]
 have HF0:Hid ((w.alloc (.cells (qhb zT zT (.slice none 0 0) (.slice none 0 0) false false) 88)).heap[w.heap.size]?=some (.cells (qhb zT zT (.slice none 0 0) (.slice none 0 0) false false) 88 (0,0))):=qao w _
 clear hG HWR
 go_enter Tryz.func10,Tryz.ntmps10
 go_wp2
 obtain ⟨wz,hwz⟩:∃ W,w.alloc (.cells #[.int .i64 0,.string ⟨#[]⟩,.slice none 0 0,.bool false,.int .i64 0,.string ⟨#[]⟩,.slice none 0 0,.bool false] 88)=W:=⟨_,rfl⟩
 have HFZ:Hid (wz.heap[w.heap.size]?=some (.cells (qhb zT zT (.slice none 0 0) (.slice none 0 0) false false) 88 (0,0))):=by rw [←hwz];exact HF0.out
 have HBZ:Hid (Below w.heap.size w wz):=by rw [←hwz];exact HB0.out
 rw [hwz]
 clear hwz HF0 HB0
 go_loopw [16] (fun iv wr=>∃ k:Nat,iv=.int .i64 (k:Int)∧k≤2∧FilesW w d k wr∧Hid (Below w.heap.size w wr)) (fun i _=>2 - (intOf i).toNat)
 case atStart=>exact ⟨0,rfl,by omega,Or.inl ⟨rfl,HFZ.out⟩,HBZ⟩
 case round =>
  obtain ⟨k,rfl,hk,hFW,HBW⟩:=hrel
  have hFL:=hI hFW.lt
  rcases hFW with hFW | hFW | hFW
  all_goals obtain rfl:=hFW.1
  ·obtain ⟨-,hbx⟩:=hFW
   have HBX0:=hI hbx
   have HRD:=hI (HRE.out wr 0 HBW.out)
   have hq:qdz d 0=(d.f0.s,0):=by unfold qdz;rw [if_neg (by unfold DK.up;rw [hdd];decide)];rfl
   rw [hq] at HRD
   have HTL:=hI (fun (W:World) (hb:Below w.heap.size w W)=>qwa d.f0.s W (hg.below hb) hs0)
   clear hbx hq
   go_wp2_with (first | (go_at_call 33;refine HRD.out.mono ?_;rintro e w2 ⟨v,rfl,hv,hb2⟩;(obtain rfl:v=.nilIface:=qel hv);have HB2:=hI (qac HBW.out hb2);have HTL2:=hI (HTL.out w2 HB2.out);clear hv) | (go_at_call 35;refine HTL2.out.mono ?_;rintro e w3 ⟨v,rfl,hr,hb3⟩;obtain ⟨A1,c1,rfl⟩:=qdu hr;have HB3:=hI (qac HB2.out hb3);(have HR1:Hid (RowF w w3 d.f0 (.slice A1 (evA (qai d.f0).evs).size c1)):=qay hr (by have:=(hFL.out);have:=hb2.size;omega));(have HBX:Hid (w3.heap[w.heap.size]?=some (.cells (qhb zT zT (.slice none 0 0) (.slice none 0 0) false false) 88 (0,0))):=(hb3.block _ (by have:=hFL.out;have:=hb2.size;omega)).trans ((hb2.block _ hFL.out).trans HBX0.out));(obtain ⟨u0,u1,u2,u3,-,-,-,-⟩:=qrs HBX.out);have z0:w3.frozen? ⟨w.heap.size,0,none⟩=false:=Lib.frozen_of_heap HBX.out 0;have z1:w3.frozen? ⟨w.heap.size,1,none⟩=false:=Lib.frozen_of_heap HBX.out 1;have z2:w3.frozen? ⟨w.heap.size,2,none⟩=false:=Lib.frozen_of_heap HBX.out 2;have z3:w3.frozen? ⟨w.heap.size,3,none⟩=false:=Lib.frozen_of_heap HBX.out 3;unfold qav;clear hr hb2 hb3))
   go_roundw
   case rel=>exact ⟨1,by go_num,by omega,Or.inr (Or.inl ⟨rfl,A1,c1,set4 HBX.out 0 _ _ _ _,qpc HR1.out (Nat.lt_succ_self _) 0 _ _ _ _⟩),qwl HB3.out (Nat.le_refl _) 0 _ _ _ _⟩
   case measure=>simp [intOf]
  ·obtain ⟨-,A0,c0,hbx,hr0⟩:=hFW
   have HR0:=hI hr0
   clear hr0
   have HBX0:=hI hbx
   have HRD:=hI (HRE.out wr 1 HBW.out)
   have hq:qdz d 1=(d.f1.s,0):=by unfold qdz;rw [if_neg (by unfold DK.up;rw [hdd];decide)];rfl
   rw [hq] at HRD
   have HTL:=hI (fun (W:World) (hb:Below w.heap.size w W)=>qwa d.f1.s W (hg.below hb) hs1)
   clear hbx hq
   go_wp2_with (first | (go_at_call 33;refine HRD.out.mono ?_;rintro e w2 ⟨v,rfl,hv,hb2⟩;(obtain rfl:v=.nilIface:=qel hv);have HB2:=hI (qac HBW.out hb2);have HTL2:=hI (HTL.out w2 HB2.out);clear hv) | (go_at_call 35;refine HTL2.out.mono ?_;rintro e w3 ⟨v,rfl,hr,hb3⟩;obtain ⟨A1,c1,rfl⟩:=qdu hr;have HB3:=hI (qac HB2.out hb3);(have HR1:Hid (RowF w w3 d.f1 (.slice A1 (evA (qai d.f1).evs).size c1)):=qay hr (by have:=(hFL.out);have:=hb2.size;omega));(have HBX:Hid (w3.heap[w.heap.size]?=some (.cells (qhb (qai d.f0) zT (.slice A0 (evA (qai d.f0).evs).size c0) (.slice none 0 0) (qF d.f0) false) 88 (0,0))):=(hb3.block _ (by have:=hFL.out;have:=hb2.size;omega)).trans ((hb2.block _ hFL.out).trans HBX0.out));have HR0b:Hid (RowF w w3 d.f0 (.slice A0 (evA (qai d.f0).evs).size c0)):=qas (qas HR0.out hb2) hb3;(obtain ⟨-,-,-,-,u0,u1,u2,u3⟩:=qrs HBX.out);have z0:w3.frozen? ⟨w.heap.size,4,none⟩=false:=Lib.frozen_of_heap HBX.out 4;have z1:w3.frozen? ⟨w.heap.size,5,none⟩=false:=Lib.frozen_of_heap HBX.out 5;have z2:w3.frozen? ⟨w.heap.size,6,none⟩=false:=Lib.frozen_of_heap HBX.out 6;have z3:w3.frozen? ⟨w.heap.size,7,none⟩=false:=Lib.frozen_of_heap HBX.out 7;unfold qav;clear hr hb2 hb3))
   go_roundw
   case rel=>exact ⟨2,by go_num,by omega,Or.inr (Or.inr ⟨rfl,A0,c0,A1,c1,set4 HBX.out 4 _ _ _ _,qpc HR0b.out (Nat.lt_succ_self _) 4 _ _ _ _,qpc HR1.out (Nat.lt_succ_self _) 4 _ _ _ _⟩),qwl HB3.out (Nat.le_refl _) 4 _ _ _ _⟩
   case measure=>simp [intOf]
  ·obtain ⟨-,A0,c0,A1,c1,hbx,hr0,hr1⟩:=hFW
   unfold RowF at hr0 hr1
   unfold qhb at hbx
   have HCH:=hI (fun W=>qyk (qai d.f0) (qai d.f1) (.slice A0 (evA (qai d.f0).evs).size c0) (.slice A1 (evA (qai d.f1).evs).size c1) (qF d.f0) (qF d.f1) W)
   have HN0:Hid (qF d.f0=decide ((qai d.f0).n=(d.get 0).s.size)):=rfl
   have HN1:Hid (qF d.f1=decide ((qai d.f1).n=(d.get 1).s.size)):=rfl
   have HFW0:=hI (qdd d.f0 hs0)
   have HFW1:=hI (qdd d.f1 hs1)
   generalize qF d.f0=p0 at HCH HN0 hbx
   generalize qF d.f1=p1 at HCH HN1 hbx
   generalize qai d.f0=t0 at HCH HN0 HFW0 HGE hbx hr0
   generalize qai d.f1=t1 at HCH HN1 HFW1 HGE hbx hr1
   have hlz:=qaa hbx
   have hgz:g < w.heap.size:=h.lt
   have HR0:=hI hr0
   have HR1:=hI hr1
   have HBX:=hI hbx
   have HGL:=hI (fun (W:World) (hb:Below w.heap.size w W)=>hg.below hb)
   have HOK:=hI hok
   have hep0:=HFW0.out.2.2
   have hep1:=HFW1.out.2.2
   have HW9:=hI (fun (W:World)=>qft 9 W (by omega))
   obtain ⟨u0,u1,u2,u3,u4,u5,u6,u7⟩:=qrs hbx
   unfold qav at HCH
   clear hr0 hr1 hbx HRE hs0 hs1 hg h hok
   by_cases h0:t0.ep=0∧t1.ep=0
   ·have HQC:Hid (qcp t0.ep t1.ep=(-1,0)):=by show _=_;unfold qcp;rw [if_pos h0]
    rw [HQC.out] at HCH
    rw [if_pos h0] at HGE
    clear h0
    generalize hR:layP ⟨d,1,0,0,false⟩ 1 first []=R at HGE
    go_wp2_with fail
    refine (HCH.out wr).mono ?_
    rintro e w3 ⟨x,rfl,hx,hb3⟩
    obtain rfl:x=.nilIface:=qel hx
    have HB3:=hI (qac HBW.out hb3)
    have HBX3:Hid (w3.heap[w.heap.size]?=some (.cells #[.int .i64 (t0.ep:Int),.string t0.st,.slice A0 (evA t0.evs).size c0,.bool p0,.int .i64 (t1.ep:Int),.string t1.st,.slice A1 (evA t1.evs).size c1,.bool p1] 88 (0,0))):=(hb3.block _ hlz).trans HBX.out
    have HR03:=hI (qas HR0.out hb3)
    have HR13:=hI (qas HR1.out hb3)
    have hlz3:=qaa HBX3.out
    have hgz3:g < w3.heap.size:=by omega
    have HD3:=hI (HD.out.below HB3.out)
    clear hx hb3 u0 u1 u2 u3 u4 u5 u6 u7 HCH HQC
    have HX4:Hid (LAt (w3.alloc (.cells #[.pointer (some ⟨g,0,none⟩),.int .i64 1,.int .i64 0,.int .i64 0,.bool false] 96)) w3.heap.size g ⟨d,1,0,0,false⟩):=⟨qao w3 _,HD3.out.below (bel1 w3 _),by omega⟩
    have HB4:Hid (Below w.heap.size w (w3.alloc (.cells #[.pointer (some ⟨g,0,none⟩),.int .i64 1,.int .i64 0,.int .i64 0,.bool false] 96))):=qab HB3.out _
    have HL4:=hI (qpp ⟨d,1,0,0,false⟩ w3.heap.size g 1 first none 0 #[] (w3.alloc (.cells #[.pointer (some ⟨g,0,none⟩),.int .i64 1,.int .i64 0,.int .i64 0,.bool false] 96)) (HGL.out _ HB4.out) HX4.out HOK.out (by show d.ops≤_;omega) (Or.inr rfl) (fun h=>absurd h (Nat.lt_irrefl 0)) (by decide) (fun i hi=>absurd hi (Nat.not_lt_zero i)))
    rw [show (#[]:Array EV).toList=[] from rfl,hR] at HL4
    clear hR
    go_wp2_with (go_at_call 37;refine HL4.out.mono ?_;rintro e w5 ⟨he,hx5,hb5⟩;obtain ⟨v5,rfl,hv5⟩:=erL_v he;have HX5:=hI hx5;have HB5:=hI hb5;clear he hx5 hb5)
    have HBO:=hI (But2.one (But.of HB4.out) HB5.out HB3.out.size)
    rcases hv5 with ⟨hc,rfl⟩ | ⟨hc,⟨t5,z5,rfl⟩,ops5,hv5⟩
    ·have HGF:Hid (G=⟨R.1,first,[],0⟩):=by show _=_;rw [HGE.out];unfold outG;rw [if_neg (by rw [hc];simp)]
     clear HGE
     simp [go_sem,eqGuard]
     go_wp2
     refine bodyPost_ret (v:=.tuple #[.pointer (some ⟨w3.heap.size,0,none⟩),.string first,.slice none 0 0,.nilIface]) (by simp [results,Tryz.results10,go_sem]) rfl ?_
     rw [HGF.out]
     exact Or.inr ⟨rfl,_,_,rfl,HB3.out.size,HX5.out,qei _ _ _ _ _,HBO.out⟩
    ·have HGF:Hid (G=qge R.1.d R.2):=by show _=_;rw [HGE.out];unfold outG;rw [if_pos hc]
     have HV5:=hI hv5
     have HC5:=hI hc
     clear HGE hv5 hc
     simp [go_sem,eqGuard]
     go_wp2
     refine bodyPost_ret (v:=.tuple #[.pointer none,.string ⟨#[]⟩,.slice none 0 0,.iface t5 z5]) (by simp [results,Tryz.results10,go_sem]) rfl ?_
     rw [HGF.out]
     exact Or.inl ⟨HC5.out,⟨_,_,rfl,HV5.out⟩,HX5.out.dsk,HBO.out⟩
   ·rw [if_neg h0] at HGE
    by_cases h1:t0.ep=t1.ep
    ·have HQC:Hid (qcp t0.ep t1.ep=(0,23)):=by show _=_;unfold qcp;rw [if_neg h0,if_pos h1]
     rw [HQC.out] at HCH
     rw [if_pos h1] at HGE
     clear h0 h1
     go_wp2_with (go_at_call 36;refine (HCH.out wr).mono ?_;rintro e w3 ⟨x,rfl,hx,hb3⟩;(have hch:=qdn hx (by decide));obtain ⟨t5,z5,rfl⟩:∃ t u,x=.iface t u:=qar hch;have HV:=hI hx;have HB3:=hI (qac HBW.out hb3);clear hx hch hb3)
     refine bodyPost_ret (v:=.tuple #[.pointer none,.string ⟨#[]⟩,.slice none 0 0,.iface t5 z5]) (by simp [results,Tryz.results10,go_sem]) rfl ?_
     rw [HGE.out]
     exact Or.inl ⟨show (23:Nat)≠0 by decide,⟨_,_,rfl,HV.out⟩,HD.out.below HB3.out,But.of HB3.out⟩
    ·rw [if_neg h1] at HGE
     by_cases h2:t1.ep < t0.ep
     ·have HQC:Hid (qcp t0.ep t1.ep=(0,0)):=by show _=_;unfold qcp;rw [if_neg h0,if_neg h1,if_pos h2]
      rw [HQC.out] at HCH
      rw [if_pos h2] at HGE
      clear h0 h1 h2
      go_wp2_with fail
      refine (HCH.out wr).mono ?_
      rintro e w3 ⟨x,rfl,hx,hb3⟩
      obtain rfl:x=.nilIface:=qel hx
      have HB3:=hI (qac HBW.out hb3)
      have HBX3:Hid (w3.heap[w.heap.size]?=some (.cells #[.int .i64 (t0.ep:Int),.string t0.st,.slice A0 (evA t0.evs).size c0,.bool p0,.int .i64 (t1.ep:Int),.string t1.st,.slice A1 (evA t1.evs).size c1,.bool p1] 88 (0,0))):=(hb3.block _ hlz).trans HBX.out
      have HR03:=hI (qas HR0.out hb3)
      have HR13:=hI (qas HR1.out hb3)
      have hlz3:=qaa HBX3.out
      have hgz3:g < w3.heap.size:=by omega
      have HD3:=hI (HD.out.below HB3.out)
      clear hx hb3 u0 u1 u2 u3 u4 u5 u6 u7 HCH HQC
      obtain ⟨u0,u1,u2,u3,u4,u5,u6,u7⟩:=qrs HBX3.out
      have HX4:Hid (LAt ((w3.alloc (.cells #[.int .i64 (t0.ep:Int),.string t0.st,.slice A0 (evA t0.evs).size c0,.bool p0] 87)).alloc (.cells #[.pointer (some ⟨g,0,none⟩),.int .i64 0,.int .i64 (t0.ep:Int),.int .i64 ((evA t0.evs).size:Int),.bool false] 96)) (w3.heap.size + 1) g ⟨d,0,t0.ep,(evA t0.evs).size,false⟩):=⟨by have hx:=qao (w3.alloc (.cells #[.int .i64 (t0.ep:Int),.string t0.st,.slice A0 (evA t0.evs).size c0,.bool p0] 87)) (.cells #[.pointer (some ⟨g,0,none⟩),.int .i64 0,.int .i64 (t0.ep:Int),.int .i64 ((evA t0.evs).size:Int),.bool false] 96);rw [show (w3.alloc (.cells #[.int .i64 (t0.ep:Int),.string t0.st,.slice A0 (evA t0.evs).size c0,.bool p0] 87)).heap.size=w3.heap.size + 1 by simp] at hx;exact hx,(HD3.out.below (bel1 w3 _)).below (bel1 _ _),by omega⟩
      have HB4:Hid (Below w.heap.size w ((w3.alloc (.cells #[.int .i64 (t0.ep:Int),.string t0.st,.slice A0 (evA t0.evs).size c0,.bool p0] 87)).alloc (.cells #[.pointer (some ⟨g,0,none⟩),.int .i64 0,.int .i64 (t0.ep:Int),.int .i64 ((evA t0.evs).size:Int),.bool false] 96))):=qab (qab HB3.out _) _
      have HRW:Hid (((w3.alloc (.cells #[.int .i64 (t0.ep:Int),.string t0.st,.slice A0 (evA t0.evs).size c0,.bool p0] 87)).alloc (.cells #[.pointer (some ⟨g,0,none⟩),.int .i64 0,.int .i64 (t0.ep:Int),.int .i64 ((evA t0.evs).size:Int),.bool false] 96)).ownsRow (w.heap.size + 1) 56 2 (.slice A0 (evA t0.evs).size c0) (evA t0.evs).size (flatK qbm 2 (evA t0.evs)).toList):=(HR03.out.alloc _).alloc _
      have HHN:Hid ((Value.slice A0 (evA t0.evs).size c0).ownBlock≠some (w3.heap.size + 1)):=fun e=>by have:=(HR03.out.lt _ e).2;omega
      cases p0
      ·have hnc:Hid (¬ t0.n=(d.get 0).s.size):=of_decide_eq_false HN0.out.symm
       by_cases h9:1000000≤t0.ep
       ·have HGF:Hid (G=qge d 9):=by show _=_;rw [HGE.out];unfold qdw;rw [if_neg hnc.out,if_pos h9]
        have h9':(1000000:Int)≤(t0.ep:Int):=by omega
        clear HGE h9
        go_wp2_with (go_at_call 38;refine (HW9.out _).mono ?_;rintro e w5 ⟨x,rfl,hch,hb5⟩;have HCH:=hI hch;have HB5:=hI (qac HB4.out hb5);clear hch hb5)
        refine bodyPost_ret (v:=.tuple #[.pointer none,.string ⟨#[]⟩,.slice none 0 0,x]) (by simp [results,Tryz.results10,go_sem]) rfl ?_
        rw [HGF.out]
        exact Or.inl ⟨show (9:Nat)≠0 by decide,⟨_,_,rfl,Or.inr ⟨show ((9:Nat):Int)≠0 by decide,HCH.out⟩⟩,HD.out.below HB5.out,But.of HB5.out⟩
       ·have h9':decide ((1000000:Int)≤(t0.ep:Int))=false:=decide_eq_false (by omega)
        obtain ⟨R,hR⟩:∃ R,layP ⟨d,0,t0.ep,(evA t0.evs).size,false⟩ (t0.ep + 1) t0.st t0.evs=R:=⟨_,rfl⟩
        have HGF:Hid (G=outG R t0.st t0.evs):=by show _=_;rw [HGE.out,←hR,qau];unfold qdw;rw [if_neg hnc.out,if_neg h9]
        obtain ⟨A',c',e',hrk,-⟩:=qbj HRW.out
        have HL4:=hI (qpp ⟨d,0,t0.ep,(evA t0.evs).size,false⟩ (w3.heap.size + 1) g (t0.ep + 1) t0.st A0 c0 (evA t0.evs) ((w3.alloc (.cells #[.int .i64 (t0.ep:Int),.string t0.st,.slice A0 (evA t0.evs).size c0,.bool false] 87)).alloc (.cells #[.pointer (some ⟨g,0,none⟩),.int .i64 0,.int .i64 (t0.ep:Int),.int .i64 ((evA t0.evs).size:Int),.bool false] 96)) (HGL.out _ HB4.out) HX4.out HOK.out (by show d.ops≤_;omega) (Or.inl rfl) (by injection e' with e1 e2 e3;rw [←e1] at hrk;exact hrk) (by rw [qau];exact HFW0.out.1) (fun i hi=>by
         refine HFW0.out.2.1 _ ?_
         rw [getElem!_pos (evA t0.evs) i hi]
         exact Array.getElem_mem_toList hi))
        rw [show (evA t0.evs).toList=t0.evs from rfl,hR] at HL4
        clear hR HGE h9 hrk e'
        go_wp2_with (go_at_call 37;refine HL4.out.mono ?_;rintro e w5 ⟨he,hx5,hb5⟩;obtain ⟨v5,rfl,hv5⟩:=erL_v he;have HX5:=hI hx5;have HB5:=hI hb5;clear he hx5 hb5)
        have HBO:=hI (But2.one (But.of HB4.out) HB5.out (by have:=HB3.out.size;omega))
        rcases hv5 with ⟨hc,rfl⟩ | ⟨hc,⟨t5,z5,rfl⟩,ops5,hv5⟩
        ·have HGO:Hid (G=⟨R.1,t0.st,t0.evs,0⟩):=by show _=_;rw [HGF.out];unfold outG;rw [if_neg (by rw [hc];simp)]
         have HF5:Hid (w5.heap[w3.heap.size]?=some (.cells #[.int .i64 (t0.ep:Int),.string t0.st,.slice A0 (evA t0.evs).size c0,.bool false] 87 (0,0))):=HB5.out.heap ((Below.heap_alloc _ _ _ (by simp)).trans (qao w3 _)) (by omega) (by omega)
         have HR5:=hI (qkm HRW.out HB5.out (by omega) HHN.out)
         have y1:w5.cell? ⟨w3.heap.size,1,none⟩=some (.string t0.st):=by rw [qad HF5.out];rfl
         have y2:w5.cell? ⟨w3.heap.size,2,none⟩=some (.slice A0 (evA t0.evs).size c0):=by rw [qad HF5.out];rfl
         clear HGF
         simp [go_sem,eqGuard]
         go_wp2
         go_region
         go_wp2
         refine bodyPost_ret (v:=.tuple #[.pointer (some ⟨w3.heap.size + 1,0,none⟩),.string t0.st,.slice A0 (evA t0.evs).size c0,.nilIface]) (by simp [results,Tryz.results10,go_sem]) rfl ?_
         rw [HGO.out]
         exact Or.inr ⟨rfl,_,_,rfl,by have:=HB3.out.size;omega,HX5.out.drew,qay HR5.out (Nat.le_succ _),HBO.out.drew⟩
        ·have HGO:Hid (G=qge R.1.d R.2):=by show _=_;rw [HGF.out];unfold outG;rw [if_pos hc]
         have HV5:=hI hv5
         have HC5:=hI hc
         clear HGF hv5 hc
         simp [go_sem,eqGuard]
         go_wp2
         refine bodyPost_ret (v:=.tuple #[.pointer none,.string ⟨#[]⟩,.slice none 0 0,.iface t5 z5]) (by simp [results,Tryz.results10,go_sem]) rfl ?_
         rw [HGO.out]
         exact Or.inl ⟨HC5.out,⟨_,_,rfl,HV5.out⟩,HX5.out.dsk,HBO.out⟩
      ·have HGF:Hid (G=⟨⟨d,0,t0.ep,(evA t0.evs).size,false⟩,t0.st,t0.evs,0⟩):=by show _=_;rw [HGE.out,qau];unfold qdw;rw [if_pos (of_decide_eq_true HN0.out.symm)]
       clear HGE
       go_wp2
       go_region
       go_wp2
       refine bodyPost_ret (v:=.tuple #[.pointer (some ⟨w3.heap.size + 1,0,none⟩),.string t0.st,.slice A0 (evA t0.evs).size c0,.nilIface]) (by simp [results,Tryz.results10,go_sem]) rfl ?_
       rw [HGF.out]
       exact Or.inr ⟨rfl,_,_,rfl,by have:=HB3.out.size;omega,HX4.out.drew,qay HRW.out (Nat.le_succ _),(But.of HB4.out).drew⟩
     ·have HQC:Hid (qcp t0.ep t1.ep=(1,0)):=by show _=_;unfold qcp;rw [if_neg h0,if_neg h1,if_neg h2]
      rw [HQC.out] at HCH
      rw [if_neg h2] at HGE
      clear h0 h1 h2
      go_wp2_with fail
      refine (HCH.out wr).mono ?_
      rintro e w3 ⟨x,rfl,hx,hb3⟩
      obtain rfl:x=.nilIface:=qel hx
      have HB3:=hI (qac HBW.out hb3)
      have HBX3:Hid (w3.heap[w.heap.size]?=some (.cells #[.int .i64 (t0.ep:Int),.string t0.st,.slice A0 (evA t0.evs).size c0,.bool p0,.int .i64 (t1.ep:Int),.string t1.st,.slice A1 (evA t1.evs).size c1,.bool p1] 88 (0,0))):=(hb3.block _ hlz).trans HBX.out
      have HR03:=hI (qas HR0.out hb3)
      have HR13:=hI (qas HR1.out hb3)
      have hlz3:=qaa HBX3.out
      have hgz3:g < w3.heap.size:=by omega
      have HD3:=hI (HD.out.below HB3.out)
      clear hx hb3 u0 u1 u2 u3 u4 u5 u6 u7 HCH HQC
      obtain ⟨u0,u1,u2,u3,u4,u5,u6,u7⟩:=qrs HBX3.out
      have HX4:Hid (LAt ((w3.alloc (.cells #[.int .i64 (t1.ep:Int),.string t1.st,.slice A1 (evA t1.evs).size c1,.bool p1] 87)).alloc (.cells #[.pointer (some ⟨g,0,none⟩),.int .i64 1,.int .i64 (t1.ep:Int),.int .i64 ((evA t1.evs).size:Int),.bool false] 96)) (w3.heap.size + 1) g ⟨d,1,t1.ep,(evA t1.evs).size,false⟩):=⟨by have hx:=qao (w3.alloc (.cells #[.int .i64 (t1.ep:Int),.string t1.st,.slice A1 (evA t1.evs).size c1,.bool p1] 87)) (.cells #[.pointer (some ⟨g,0,none⟩),.int .i64 1,.int .i64 (t1.ep:Int),.int .i64 ((evA t1.evs).size:Int),.bool false] 96);rw [show (w3.alloc (.cells #[.int .i64 (t1.ep:Int),.string t1.st,.slice A1 (evA t1.evs).size c1,.bool p1] 87)).heap.size=w3.heap.size + 1 by simp] at hx;exact hx,(HD3.out.below (bel1 w3 _)).below (bel1 _ _),by omega⟩
      have HB4:Hid (Below w.heap.size w ((w3.alloc (.cells #[.int .i64 (t1.ep:Int),.string t1.st,.slice A1 (evA t1.evs).size c1,.bool p1] 87)).alloc (.cells #[.pointer (some ⟨g,0,none⟩),.int .i64 1,.int .i64 (t1.ep:Int),.int .i64 ((evA t1.evs).size:Int),.bool false] 96))):=qab (qab HB3.out _) _
      have HRW:Hid (((w3.alloc (.cells #[.int .i64 (t1.ep:Int),.string t1.st,.slice A1 (evA t1.evs).size c1,.bool p1] 87)).alloc (.cells #[.pointer (some ⟨g,0,none⟩),.int .i64 1,.int .i64 (t1.ep:Int),.int .i64 ((evA t1.evs).size:Int),.bool false] 96)).ownsRow (w.heap.size + 1) 56 2 (.slice A1 (evA t1.evs).size c1) (evA t1.evs).size (flatK qbm 2 (evA t1.evs)).toList):=(HR13.out.alloc _).alloc _
      have HHN:Hid ((Value.slice A1 (evA t1.evs).size c1).ownBlock≠some (w3.heap.size + 1)):=fun e=>by have:=(HR13.out.lt _ e).2;omega
      cases p1
      ·have hnc:Hid (¬ t1.n=(d.get 1).s.size):=of_decide_eq_false HN1.out.symm
       by_cases h9:1000000≤t1.ep
       ·have HGF:Hid (G=qge d 9):=by show _=_;rw [HGE.out];unfold qdw;rw [if_neg hnc.out,if_pos h9]
        have h9':(1000000:Int)≤(t1.ep:Int):=by omega
        clear HGE h9
        go_wp2_with (go_at_call 38;refine (HW9.out _).mono ?_;rintro e w5 ⟨x,rfl,hch,hb5⟩;have HCH:=hI hch;have HB5:=hI (qac HB4.out hb5);clear hch hb5)
        refine bodyPost_ret (v:=.tuple #[.pointer none,.string ⟨#[]⟩,.slice none 0 0,x]) (by simp [results,Tryz.results10,go_sem]) rfl ?_
        rw [HGF.out]
        exact Or.inl ⟨show (9:Nat)≠0 by decide,⟨_,_,rfl,Or.inr ⟨show ((9:Nat):Int)≠0 by decide,HCH.out⟩⟩,HD.out.below HB5.out,But.of HB5.out⟩
       ·have h9':decide ((1000000:Int)≤(t1.ep:Int))=false:=decide_eq_false (by omega)
        obtain ⟨R,hR⟩:∃ R,layP ⟨d,1,t1.ep,(evA t1.evs).size,false⟩ (t1.ep + 1) t1.st t1.evs=R:=⟨_,rfl⟩
        have HGF:Hid (G=outG R t1.st t1.evs):=by show _=_;rw [HGE.out,←hR,qau];unfold qdw;rw [if_neg hnc.out,if_neg h9]
        obtain ⟨A',c',e',hrk,-⟩:=qbj HRW.out
        have HL4:=hI (qpp ⟨d,1,t1.ep,(evA t1.evs).size,false⟩ (w3.heap.size + 1) g (t1.ep + 1) t1.st A1 c1 (evA t1.evs) ((w3.alloc (.cells #[.int .i64 (t1.ep:Int),.string t1.st,.slice A1 (evA t1.evs).size c1,.bool false] 87)).alloc (.cells #[.pointer (some ⟨g,0,none⟩),.int .i64 1,.int .i64 (t1.ep:Int),.int .i64 ((evA t1.evs).size:Int),.bool false] 96)) (HGL.out _ HB4.out) HX4.out HOK.out (by show d.ops≤_;omega) (Or.inr rfl) (by injection e' with e1 e2 e3;rw [←e1] at hrk;exact hrk) (by rw [qau];exact HFW1.out.1) (fun i hi=>by
         refine HFW1.out.2.1 _ ?_
         rw [getElem!_pos (evA t1.evs) i hi]
         exact Array.getElem_mem_toList hi))
        rw [show (evA t1.evs).toList=t1.evs from rfl,hR] at HL4
        clear hR HGE h9 hrk e'
        go_wp2_with (go_at_call 37;refine HL4.out.mono ?_;rintro e w5 ⟨he,hx5,hb5⟩;obtain ⟨v5,rfl,hv5⟩:=erL_v he;have HX5:=hI hx5;have HB5:=hI hb5;clear he hx5 hb5)
        have HBO:=hI (But2.one (But.of HB4.out) HB5.out (by have:=HB3.out.size;omega))
        rcases hv5 with ⟨hc,rfl⟩ | ⟨hc,⟨t5,z5,rfl⟩,ops5,hv5⟩
        ·have HGO:Hid (G=⟨R.1,t1.st,t1.evs,0⟩):=by show _=_;rw [HGF.out];unfold outG;rw [if_neg (by rw [hc];simp)]
         have HF5:Hid (w5.heap[w3.heap.size]?=some (.cells #[.int .i64 (t1.ep:Int),.string t1.st,.slice A1 (evA t1.evs).size c1,.bool false] 87 (0,0))):=HB5.out.heap ((Below.heap_alloc _ _ _ (by simp)).trans (qao w3 _)) (by omega) (by omega)
         have HR5:=hI (qkm HRW.out HB5.out (by omega) HHN.out)
         have y1:w5.cell? ⟨w3.heap.size,1,none⟩=some (.string t1.st):=by rw [qad HF5.out];rfl
         have y2:w5.cell? ⟨w3.heap.size,2,none⟩=some (.slice A1 (evA t1.evs).size c1):=by rw [qad HF5.out];rfl
         clear HGF
         simp [go_sem,eqGuard]
         go_wp2
         go_region
         go_wp2
         refine bodyPost_ret (v:=.tuple #[.pointer (some ⟨w3.heap.size + 1,0,none⟩),.string t1.st,.slice A1 (evA t1.evs).size c1,.nilIface]) (by simp [results,Tryz.results10,go_sem]) rfl ?_
         rw [HGO.out]
         exact Or.inr ⟨rfl,_,_,rfl,by have:=HB3.out.size;omega,HX5.out.drew,qay HR5.out (Nat.le_succ _),HBO.out.drew⟩
        ·have HGO:Hid (G=qge R.1.d R.2):=by show _=_;rw [HGF.out];unfold outG;rw [if_pos hc]
         have HV5:=hI hv5
         have HC5:=hI hc
         clear HGF hv5 hc
         simp [go_sem,eqGuard]
         go_wp2
         refine bodyPost_ret (v:=.tuple #[.pointer none,.string ⟨#[]⟩,.slice none 0 0,.iface t5 z5]) (by simp [results,Tryz.results10,go_sem]) rfl ?_
         rw [HGO.out]
         exact Or.inl ⟨HC5.out,⟨_,_,rfl,HV5.out⟩,HX5.out.dsk,HBO.out⟩
      ·have HGF:Hid (G=⟨⟨d,1,t1.ep,(evA t1.evs).size,false⟩,t1.st,t1.evs,0⟩):=by show _=_;rw [HGE.out,qau];unfold qdw;rw [if_pos (of_decide_eq_true HN1.out.symm)]
       clear HGE
       go_wp2
       go_region
       go_wp2
       refine bodyPost_ret (v:=.tuple #[.pointer (some ⟨w3.heap.size + 1,0,none⟩),.string t1.st,.slice A1 (evA t1.evs).size c1,.nilIface]) (by simp [results,Tryz.results10,go_sem]) rfl ?_
       rw [HGF.out]
       exact Or.inr ⟨rfl,_,_,rfl,by have:=HB3.out.size;omega,HX4.out.drew,qay HRW.out (Nat.le_succ _),(But.of HB4.out).drew⟩
end Go.Proofs.YtjkecckndfcbjaaGreatDoor
namespace Go.Proofs.YtjkecckndfcbjaaGreatDoor
open Go.RowKit Go.Sort Crc Nb
set_option maxRecDepth 100000
theorem tick_any (w:World) :
 Calls Tryz.prog 27 #[] w fun e w'=>e=.returned (.agg #[.int .i64 3,.string ⟨#[]⟩])∧Below w.heap.size w w':=by
 go_enter Tryz.func27,Tryz.ntmps27
 go_wp2
 refine bodyPost_ret (v:=.agg #[.int .i64 3,.string ⟨#[]⟩]) (by simp [results,Tryz.results27,go_sem]) rfl ⟨rfl,?_⟩
 repeat (first | exact bel1 w _ | refine Below.drew ?_ | refine qan ?_ _ | refine qab ?_ _)
theorem But2.cellA {g h:Nat} {w w':World} (x:But2 g h w w') {p:Addr} (hp:p.block < w.heap.size) (h1:p.block≠g) (h2:p.block≠h):w'.cell? p=w.cell? p:=World.cell?_of_block (x.block p.block hp h1 h2)
theorem Flt.but2 {g h b:Nat} {w w':World} (hb:But2 g h w w') (hg:¬ Flt w g) (hh:¬ Flt w h) (f:Flt w b):Flt w' b:=by
 have h1:b≠g:=fun e=>hg (e ▸ f)
 have h2:b≠h:=fun e=>hh (e ▸ f)
 obtain ⟨cs,f,hx⟩:=f
 exact ⟨cs,f,hb.heap hx h1 h2⟩
theorem Chain.but2 {g h:Nat} {w w':World} (hb:But2 g h w w') (hg:¬ Flt w g) (hh:¬ Flt w h):∀ {ops:List ByteArray} {c:Int} {v:Value},Chain w ops c v→Chain w' ops c v
 | [],_,_,h=>h
 | _ :: _,_,_,⟨b,o,u,h1,h2,h3,h4,h5⟩=>by
   have n1:b≠g:=fun e=>hg (e ▸ h5)
   have n2:b≠h:=fun e=>hh (e ▸ h5)
   exact ⟨b,o,u,h1,(hb.cellA (p:=⟨b,o,none⟩) (qam h2) n1 n2).trans h2,(hb.cellA (p:=⟨b,o + 1,none⟩) (qam h3) n1 n2).trans h3,Chain.but2 hb hg hh h4,h5.but2 hb hg hh⟩
theorem ErrV.but2 {g h:Nat} {w w':World} (hb:But2 g h w w') (hg:¬ Flt w g) (hh:¬ Flt w h) {ops:List ByteArray} {c:Int} {v:Value} (x:ErrV w ops c v):ErrV w' ops c v:=by
 rcases x with x | ⟨h1,h2⟩
 ·exact Or.inl x
 ·exact Or.inr ⟨h1,h2.but2 hb hg hh⟩
theorem LAt.other {w w':World} {g h h2:Nat} {l:LG} (x:LAt w h g l) (hb:But2 g h2 w w') (hh:h≠h2) {d:DK} (hd:DAt w' g d):LAt w' h g { l with d:=d }:=⟨hb.heap x.box x.ne hh,hd,x.ne⟩
theorem qff {g:Nat} {x:OG} {w w':World} {e:Ending} (h:qyl g x w e w') (h0:x.e=0) :
 ∃ k A c,e=.returned (.tuple #[.pointer (some ⟨k,0,none⟩),.string x.st,.slice A (evA x.evs).size c,.nilIface])∧w.heap.size≤k∧LAt w' k g x.l∧w'.ownsRow w.heap.size 56 2 (.slice A (evA x.evs).size c) (evA x.evs).size (flatK qbm 2 (evA x.evs)).toList∧But g w w':=by
 rcases h with ⟨h1,-⟩ | ⟨-,k,v,rfl,h2,h3,h4,h5⟩
 ·exact absurd h0 h1
 ·obtain ⟨A,c,rfl⟩:=qdu h4
  exact ⟨k,A,c,rfl,h2,h3,h4,h5⟩
theorem erL_0 {c:Nat} {e:Ending} {w:World} (h:ErL c e w) (h0:c=0):e=.returned .nilIface:=by
 obtain ⟨v,rfl,⟨-,rfl⟩ | ⟨h1,-⟩⟩:=erL_v h
 ·rfl
 ·exact absurd h0 h1
theorem erL_n {c:Nat} {e:Ending} {w:World} (h:ErL c e w) (h0:c≠0):∃ t u ops,e=.returned (.iface t u)∧ErrV w ops (c:Int) (.iface t u):=by
 obtain ⟨v,rfl,⟨h1,-⟩ | ⟨-,⟨t,u,rfl⟩,ops,hv⟩⟩:=erL_v h
 ·exact absurd h1 h0
 ·exact ⟨t,u,ops,rfl,hv⟩
theorem aw1_open {g:Nat} {w w':World} {e:Ending} (h:qyl g aw1 w e w'):∃ k A c,e=.returned (.tuple #[.pointer (some ⟨k,0,none⟩),.string ⟨#[102,105,114,115,116]⟩,.slice A 0 c,.nilIface])∧w.heap.size≤k∧LAt w' k g aw1.l∧But g w w':=by
 obtain ⟨k,A,c,rfl,h1,h2,-,h3⟩:=qff h qsy.1
 refine ⟨k,A,c,?_,h1,h2,h3⟩
 rw [qsy.2.1,show (evA aw1.evs).size=0 by rw [qau];exact qsy.2.2]
 rfl
theorem aw5_open {g:Nat} {w w':World} {e:Ending} (h:qyl g aw5 w e w'):∃ k A c,e=.returned (.tuple #[.pointer (some ⟨k,0,none⟩),.string ⟨#[102,105,114,115,116]⟩,.slice A 1 c,.nilIface])∧w.heap.size≤k∧LAt w' k g aw5l∧But g w w':=by
 rw [aw5_eq] at h
 obtain ⟨k,A,c,rfl,h1,h2,-,h3⟩:=qff h rfl
 exact ⟨k,A,c,rfl,h1,h2,h3⟩
theorem aw7_open {g:Nat} {w w':World} {e:Ending} (h:qyl g aw7 w e w'):∃ l k A c,e=.returned (.tuple #[.pointer (some ⟨k,0,none⟩),.string ⟨#[110,101,120,116]⟩,.slice A 0 c,.nilIface])∧w.heap.size≤k∧LAt w' k g l∧But g w w':=by
 obtain ⟨l,hl⟩:=aw7_all
 rw [hl] at h
 obtain ⟨k,A,c,rfl,h1,h2,-,h3⟩:=qff h rfl
 exact ⟨l,k,A,c,rfl,h1,h2,h3⟩
end Go.Proofs.YtjkecckndfcbjaaGreatDoor
