/- Texts that the law leans on. -/
import Derived.Test.YtjkecckndfcbjaaGreatDoorPBoxG
import Derived.Test.YtjkecckndfcbjaaGreatDoorPOwnK
import Derived.Test.YtjkecckndfcbjaaGreatDoorPBase
import Derived.BigRegion
namespace Go.Proofs.YtjkecckndfcbjaaGreatDoor
open Go.RowKit Nb
def nats (d:Array Int):List Nat:=d.toList.map Int.toNat
def LayN (d:Array Int):Prop:=∀ i,i < d.size→0≤d[i]!∧d[i]!≤9223372036854775807
theorem qdy (d:Array Int):(nats d).length=d.size:=by simp [nats]
theorem qrd (d:Array Int) (k:Nat) (h:k < d.size):(nats d).take (k + 1)=(nats d).take k ++ [d[k]!.toNat]:=by
 rw [List.take_succ_eq_append_getElem (by rw [qdy];exact h)]
 congr 2
 simp [nats,getElem!_pos d k h]
theorem qvn (d:Array Int):(nats d).take d.size=nats d:=List.take_of_length_le (by rw [qdy];exact Nat.le_refl _)
theorem LayN.nats {d:Array Int} (h:LayN d):∀ n ∈ nats d,n≤9223372036854775807:=by
 intro n hn
 simp only [Go.Proofs.YtjkecckndfcbjaaGreatDoor.nats,List.mem_map,Array.mem_toList_iff] at hn
 obtain ⟨x,hx,rfl⟩:=hn
 obtain ⟨i,hi,rfl⟩:=Array.getElem_of_mem hx
 have:=h i hi
 rw [getElem!_pos d i hi] at this
 omega
theorem qdx (l:List Nat) (h:∀ n ∈ l,n≤9223372036854775807):(l.flatMap numB).length≤9 * l.length:=by
 induction l with
 | nil=>simp
 | cons n l ih =>
   have h1:=qax n (h n (by simp))
   have h2:=ih (fun x hx=>h x (by simp [hx]))
   rw [List.flatMap_cons,List.length_append,List.length_cons];omega
theorem qvo (d:Array Int) (h:LayN d) (k:Nat):(((nats d).take k).flatMap numB).length≤9 * k:=by
 have h1:=qdx ((nats d).take k) (fun n hn=>h.nats n (List.mem_of_mem_take hn))
 have h2:=List.length_take_le k (nats d)
 omega
end Go.Proofs.YtjkecckndfcbjaaGreatDoor
namespace Go.Proofs.YtjkecckndfcbjaaGreatDoor
open Go.RowKit Nb
theorem qvp:(Tryz.prog.info? 3).map (fun i=>(i.zero,i.size,i.bytes))=some (some (.int .i64 0),1,8):=by kernel_rfl
theorem one_new (w:World) (u:Value) (e:TypeId):∀ (j:Nat) (v:Value),[u][j]?=some v→(w.alloc (.cells #[u] e)).cell? (Addr.add ⟨w.heap.size,0,none⟩ j)=some v:=by
 intro j v hj
 match j,hj with
 | 0,hj=>simp at hj;subst hj;simp [Addr.add]
theorem qvq (s:ByteArray) (p n k:Nat) (w:World) (hp:p≤s.size) (hs:s.size≤1000000) (h:getL (s.data.toList.drop p)=.ok n k) :
 Calls Tryz.prog 133 #[.string s,.int .i64 p] w fun e w'=>e=.returned (.tuple #[.int .i64 (n:Int),.int .i64 ((p + k:Nat):Int),.int .i64 0])∧w=w' :=
 (qrt s p w hp hs).mono fun e w' ⟨he,hw⟩=>⟨by rw [he,h];rfl,hw⟩
theorem qvr (s:ByteArray) (p c:Nat) (w:World) (hp:p≤s.size) (hs:s.size≤1000000) (h:getL (s.data.toList.drop p)=.no c) :
 Calls Tryz.prog 133 #[.string s,.int .i64 p] w fun e w'=>e=.returned (.tuple #[.int .i64 0,.int .i64 0,.int .i64 (c:Int)])∧w=w' :=
 (qrt s p w hp hs).mono fun e w' ⟨he,hw⟩=>⟨by rw [he,h];rfl,hw⟩
theorem qoh (s:ByteArray) (p n k:Nat) (w:World) (hp:p≤s.size) (hs:s.size≤1000000) (h:getL (s.data.toList.drop p)=.ok n k) :
 Calls Tryz.prog 120 #[.string s,.int .i64 p] w fun e w'=>e=.returned (.tuple #[.int .i64 (n:Int),.int .i64 ((p + k:Nat):Int),.int .i64 0])∧w=w' :=
 (qmz s p w hp hs).mono fun e w' ⟨he,hw⟩=>⟨by rw [he,h];rfl,hw⟩
theorem qoi (s:ByteArray) (p c:Nat) (w:World) (hp:p≤s.size) (hs:s.size≤1000000) (h:getL (s.data.toList.drop p)=.no c) :
 Calls Tryz.prog 120 #[.string s,.int .i64 p] w fun e w'=>e=.returned (.tuple #[.int .i64 0,.int .i64 0,.int .i64 (c:Int)])∧w=w' :=
 (qmz s p w hp hs).mono fun e w' ⟨he,hw⟩=>⟨by rw [he,h];rfl,hw⟩
def ints (l:List Nat):Array Int:=(l.map Int.ofNat).toArray
theorem qds (l:List Nat):(ints l).size=l.length:=by simp [ints]
def UnR (p:Nat) (w:World) (r:UR) (e:Ending) (w':World):Prop:=Below w.heap.size w w'∧match r with
 | .no c=>e=.returned (.tuple #[.slice none 0 0,.int .i64 0,.int .i64 (c:Int)])
 | .ok l k=>∃ A cp,e=.returned (.tuple #[.slice A l.length cp,.int .i64 ((p + k:Nat):Int),.int .i64 0])∧RdI w'.heap.size w' A (ints l)∧((A=none→cp=0)∧l.length≤cp)∧(∀ a,A=some a→w.heap.size≤a.block)
def UnH (s:ByteArray) (p1 many:Nat) (w:World) (lv tv iv:Value) (wr:World):Prop:=∃ (i q:Nat) (ns:List Nat),iv=.int .i64 (i:Int)∧tv=.int .i64 (q:Int) ∧
 wr.ownsRow w.heap.size 3 1 lv ns.length ((ns.map Int.ofNat).map (Value.int .i64))∧q≤s.size∧i≤many∧ns.length=i∧p1≤q∧unL many (s.data.toList.drop p1)=(unL (many - i) (s.data.toList.drop q)).glue ns (q - p1)∧Below w.heap.size w wr
theorem UnR.of_no {p c:Nat} {w w':World} (hb:Below w.heap.size w w'):UnR p w (.no c) (.returned (.tuple #[.slice none 0 0,.int .i64 0,.int .i64 (c:Int)])) w':=⟨hb,rfl⟩
set_option maxRecDepth 100000 in
set_option maxHeartbeats 2000000 in
theorem Unrow_any (s:ByteArray) (p top:Nat) (w:World) (hp:p≤s.size) (hs:s.size≤1000000) (ht:top≤1000) :
 Calls Tryz.prog 175 #[.string s,.int .i64 p,.int .i64 top] w fun e w'=>UnR p w (qdk (s.data.toList.drop p) top) e w':=by
 cases hg:getL (s.data.toList.drop p) with
 | no c =>
   have HG:=hI (qvr s p c w hp hs hg)
   have HU:Hid (qdk (s.data.toList.drop p) top=.no c):=by show _=_;unfold qdk;rw [hg]
   have hc:=qdg hg
   have hc0:((c:Int) != 0)=true:=by simp;omega
   clear hg hc
   go_enter Tryz.func175,Tryz.ntmps175
   go_wp2_with (go_at_call 133;refine HG.out.mono ?_;rintro e w' ⟨rfl,rfl⟩)
   go_ret3
   rw [HU.out]
   exact UnR.of_no (Below.refl _ _)
 | ok n k =>
   have HG:=hI (qvq s p n k w hp hs hg)
   obtain ⟨-,-,hk,hn⟩:=qcn hg
   have hk2:p + k≤s.size:=by rw [List.length_drop] at hk;simp at hk;omega
   by_cases hbig:min top 1000 < n
   ·have HU:Hid (qdk (s.data.toList.drop p) top=.no 3):=by show _=_;unfold qdk;rw [hg];simp only;rw [if_pos hbig]
    have hb2:decide (min (top:Int) 1000 < (n:Int))=true:=by simp;omega
    clear hbig hg hk hn
    go_enter Tryz.func175,Tryz.ntmps175
    go_wp2_with (go_at_call 133;refine HG.out.mono ?_;rintro e w' ⟨rfl,rfl⟩)
    go_ret3
    rw [HU.out]
    exact UnR.of_no (Below.refl _ _)
   ·have HU:Hid (qdk (s.data.toList.drop p) top=(unL n (s.data.toList.drop (p + k))).glue [] k):=by show _=_;unfold qdk;rw [hg];simp only;rw [if_neg hbig,List.drop_drop]
    have hn1:n≤1000:=by omega
    have hb2:decide (min (top:Int) 1000 < (n:Int))=false:=by simp;omega
    obtain ⟨p1,hp1⟩:∃ p1,p + k=p1:=⟨_,rfl⟩
    rw [hp1] at HG HU hk2
    have HP1:=hI hp1
    obtain ⟨i0,hi0,hz0,hz1,hz2⟩:=info_parts qvp
    clear hg hk hn hbig hp1
    go_enter Tryz.func175,Tryz.ntmps175
    go_wp2_with (go_at_call 133;refine HG.out.mono ?_;rintro e w' ⟨rfl,rfl⟩)
    go_loopw [6,7,29] (fun lv tv iv wr=>UnH s p1 n w lv tv iv wr) (fun _ _ iv _=>n - (intOf iv).toNat)
    case atStart=>exact ⟨0,p1,[],rfl,rfl,World.ownsRow_nil _ _ _ _,hk2,Nat.zero_le _,rfl,Nat.le_refl _,by simp [UR.glue_nil],Below.refl _ _⟩
    case round =>
     obtain ⟨i,q,ns,rfl,rfl,hown,hq,hi,hns,hpq,hun,hb⟩:=hrel
     have HUN:=hI hun
     have HB:=hI hb
     have HNS:=hI hns
     have hbs:=hb.size
     clear hun hb hns
     by_cases hlt:i < n
     ·have iz:(i:Int) < (n:Int):=by omega
      obtain ⟨m,hm⟩:∃ m,n - i=m + 1:=⟨n - i - 1,by omega⟩
      cases hg2:getL (s.data.toList.drop q) with
      | no c =>
        have HG2:=hI (qvr s q c wr hq hs hg2)
        have HE:Hid (qdk (s.data.toList.drop p) top=.no c):=by
         show _=_
         rw [HU.out,HUN.out,hm]
         simp only [unL,hg2,UR.glue]
        have hc:=qdg hg2
        have hc0:((c:Int) != 0)=true:=by simp;omega
        clear hg2 hc hm
        go_wp2_with (go_at_call 133;refine HG2.out.mono ?_;rintro e w' ⟨rfl,rfl⟩)
        go_ret3
        rw [HE.out]
        exact UnR.of_no HB.out
      | ok x j =>
        have HG2:=hI (qvq s q x j wr hq hs hg2)
        obtain ⟨-,-,hj,hx⟩:=qcn hg2
        have hj2:q + j≤s.size:=by rw [List.length_drop] at hj;simp at hj;omega
        have HE:Hid (unL n (s.data.toList.drop p1)=(unL (n - (i + 1)) (s.data.toList.drop (q + j))).glue (ns ++ [x]) (q + j - p1)):=by
         show _=_
         rw [HUN.out,hm]
         have e1:n - (i + 1)=m:=by omega
         have e2:q - p1 + j=q + j - p1:=by omega
         simp only [unL,hg2,UR.glue_glue,List.drop_drop,e1,e2]
        obtain ⟨q2,hq2⟩:∃ q2,q + j=q2:=⟨_,rfl⟩
        rw [hq2] at HG2 HE hj2
        have hpq2:p1≤q2:=by omega
        have hnl:ns.length≤1000:=by have:=HNS.out;omega
        clear hg2 hj hx hm hq2
        go_wp2_with (first | (go_at_call 133;refine HG2.out.mono ?_;rintro e w' ⟨rfl,rfl⟩) | (at_builtin;refine wpList_append_own _ rfl _ _ 205 rfl w.heap.size 3 i0 (.int .i64 0) 1 8 Tryz.underlying205 hi0 hz0 hz1 hz2 rfl (by decide) _ _ _ rfl (hown.alloc _) ⟨wr.heap.size,0,none⟩ 1 1 [.int .i64 (x:Int)] rfl rfl (one_new wr _ _) (by simp [Value.oneCell']) (by unfold maxLen;omega) (by omega) (by simp;omega) ?_;intro v' w4 hown' hgrow _;have HO:=hI hown';have HB4:=hI ((qab HB.out _).grown hgrow (by simp;omega) (fun t htt=>(hown.lt t htt).1));clear hown' hgrow))
        go_roundw
        case rel =>
         refine ⟨i + 1,q2,ns ++ [x],by go_num,rfl,?_,hj2,by omega,by rw [List.length_append,HNS.out];rfl,hpq2,HE.out,HB4.out⟩
         have:=HO.out
         simpa using this
        case measure=>simp [intOf];omega
     ·have iz:decide ((i:Int) < (n:Int))=false:=by simp;omega
      have HE:Hid (qdk (s.data.toList.drop p) top=.ok ns (q - p1 + k)):=by
       show _=_
       have e1:n - i=0:=by omega
       rw [HU.out,HUN.out,e1]
       simp [unL,UR.glue]
       omega
      obtain ⟨A,cp,rfl,hrd,hnil,hlo⟩:=RdI.of_owns (xs:=ns.map Int.ofNat) (by simpa using hown)
      have HLO:=hI hlo
      have HRD:=hI hrd
      have HNI:Hid ((A=none→cp=0)∧ns.length≤cp):=⟨hnil.1,by have:=hnil.2;simpa using this⟩
      clear hrd hnil hown hlo
      go_wp2
      go_ret3
      rw [HE.out]
      refine ⟨HB.out,A,cp,?_,HRD.out,HNI.out,HLO.out⟩
      have e1:q=p + (q - p1 + k):=by have:=HP1.out;omega
      have e2:(ns.map Int.ofNat).length=ns.length:=by simp
      simp only [←e1]
      first | rfl | (rw [←e2];rfl)
set_option maxRecDepth 100000 in
set_option maxHeartbeats 2000000 in
theorem qxi (s:ByteArray) (p top:Nat) (w:World) (hp:p≤s.size) (hs:s.size≤1000000) (ht:top≤1000) :
 Calls Tryz.prog 168 #[.string s,.int .i64 p,.int .i64 top] w fun e w'=>UnR p w (qdk (s.data.toList.drop p) top) e w':=by
 cases hg:getL (s.data.toList.drop p) with
 | no c =>
   have HG:=hI (qoi s p c w hp hs hg)
   have HU:Hid (qdk (s.data.toList.drop p) top=.no c):=by show _=_;unfold qdk;rw [hg]
   have hc:=qdg hg
   have hc0:((c:Int) != 0)=true:=by simp;omega
   clear hg hc
   go_enter Tryz.func168,Tryz.ntmps168
   go_wp2_with (go_at_call 120;refine HG.out.mono ?_;rintro e w' ⟨rfl,rfl⟩)
   go_ret3
   rw [HU.out]
   exact UnR.of_no (Below.refl _ _)
 | ok n k =>
   have HG:=hI (qoh s p n k w hp hs hg)
   obtain ⟨-,-,hk,hn⟩:=qcn hg
   have hk2:p + k≤s.size:=by rw [List.length_drop] at hk;simp at hk;omega
   by_cases hbig:min top 1000 < n
   ·have HU:Hid (qdk (s.data.toList.drop p) top=.no 3):=by show _=_;unfold qdk;rw [hg];simp only;rw [if_pos hbig]
    clear hg hk hn
    by_cases hb3:1000 < n
    ·have hb2:decide ((1000:Int) < (n:Int))=true:=by simp;omega
     clear hbig hb3
     go_enter Tryz.func168,Tryz.ntmps168
     go_wp2_with (go_at_call 120;refine HG.out.mono ?_;rintro e w' ⟨rfl,rfl⟩)
     go_ret3
     rw [HU.out]
     exact UnR.of_no (Below.refl _ _)
    ·have hb2:decide ((1000:Int) < (n:Int))=false:=by simp;omega
     have hb4:decide (top < n)=true:=by simp;omega
     have hb5:decide ((0:Int) < (n:Int))=true:=by simp;omega
     have hb6:0 < n:=by omega
     clear hbig hb3
     go_enter Tryz.func168,Tryz.ntmps168
     go_wp2_with (go_at_call 120;refine HG.out.mono ?_;rintro e w' ⟨rfl,rfl⟩)
     go_ret3
     rw [HU.out]
     exact UnR.of_no (Below.refl _ _)
   ·have HU:Hid (qdk (s.data.toList.drop p) top=(unL n (s.data.toList.drop (p + k))).glue [] k):=by show _=_;unfold qdk;rw [hg];simp only;rw [if_neg hbig,List.drop_drop]
    have hn1:n≤1000:=by omega
    have hb2:decide ((1000:Int) < (n:Int))=false:=by simp;omega
    have hb4:decide (top < n)=false:=by simp;omega
    obtain ⟨p1,hp1⟩:∃ p1,p + k=p1:=⟨_,rfl⟩
    rw [hp1] at HG HU hk2
    have HP1:=hI hp1
    obtain ⟨i0,hi0,hz0,hz1,hz2⟩:=info_parts qvp
    clear hg hk hn hbig hp1
    go_enter Tryz.func168,Tryz.ntmps168
    go_wp2_with (go_at_call 120;refine HG.out.mono ?_;rintro e w' ⟨rfl,rfl⟩)
    go_loopw [10,12,13] (fun tv lv iv wr=>UnH s p1 n w lv tv iv wr) (fun _ _ iv _=>n - (intOf iv).toNat)
    case atStart=>exact ⟨0,p1,[],rfl,rfl,World.ownsRow_nil _ _ _ _,hk2,Nat.zero_le _,rfl,Nat.le_refl _,by simp [UR.glue_nil],Below.refl _ _⟩
    case round =>
     obtain ⟨i,q,ns,rfl,rfl,hown,hq,hi,hns,hpq,hun,hb⟩:=hrel
     have HUN:=hI hun
     have HB:=hI hb
     have HNS:=hI hns
     have hbs:=hb.size
     clear hun hb hns
     by_cases hlt:i < n
     ·have iz:(i:Int) < (n:Int):=by omega
      obtain ⟨m,hm⟩:∃ m,n - i=m + 1:=⟨n - i - 1,by omega⟩
      cases hg2:getL (s.data.toList.drop q) with
      | no c =>
        have HG2:=hI (qoi s q c wr hq hs hg2)
        have HE:Hid (qdk (s.data.toList.drop p) top=.no c):=by
         show _=_
         rw [HU.out,HUN.out,hm]
         simp only [unL,hg2,UR.glue]
        have hc:=qdg hg2
        have hc0:((c:Int) != 0)=true:=by simp;omega
        clear hg2 hc hm
        go_wp2_with (go_at_call 120;refine HG2.out.mono ?_;rintro e w' ⟨rfl,rfl⟩)
        go_ret3
        rw [HE.out]
        exact UnR.of_no HB.out
      | ok x j =>
        have HG2:=hI (qoh s q x j wr hq hs hg2)
        obtain ⟨-,-,hj,hx⟩:=qcn hg2
        have hj2:q + j≤s.size:=by rw [List.length_drop] at hj;simp at hj;omega
        have HE:Hid (unL n (s.data.toList.drop p1)=(unL (n - (i + 1)) (s.data.toList.drop (q + j))).glue (ns ++ [x]) (q + j - p1)):=by
         show _=_
         rw [HUN.out,hm]
         have e1:n - (i + 1)=m:=by omega
         have e2:q - p1 + j=q + j - p1:=by omega
         simp only [unL,hg2,UR.glue_glue,List.drop_drop,e1,e2]
        obtain ⟨q2,hq2⟩:∃ q2,q + j=q2:=⟨_,rfl⟩
        rw [hq2] at HG2 HE hj2
        have hpq2:p1≤q2:=by omega
        have hnl:ns.length≤1000:=by have:=HNS.out;omega
        clear hg2 hj hx hm hq2
        go_wp2_with (first | (go_at_call 120;refine HG2.out.mono ?_;rintro e w' ⟨rfl,rfl⟩) | (at_builtin;refine wpList_append_own _ rfl _ _ 205 rfl w.heap.size 3 i0 (.int .i64 0) 1 8 Tryz.underlying205 hi0 hz0 hz1 hz2 rfl (by decide) _ _ _ rfl (hown.alloc _) ⟨wr.heap.size,0,none⟩ 1 1 [.int .i64 (x:Int)] rfl rfl (one_new wr _ _) (by simp [Value.oneCell']) (by unfold maxLen;omega) (by omega) (by simp;omega) ?_;intro v' w4 hown' hgrow _;have HO:=hI hown';have HB4:=hI ((qab HB.out _).grown hgrow (by simp;omega) (fun t htt=>(hown.lt t htt).1));clear hown' hgrow))
        go_roundw
        case rel =>
         refine ⟨i + 1,q2,ns ++ [x],by go_num,rfl,?_,hj2,by omega,by rw [List.length_append,HNS.out];rfl,hpq2,HE.out,HB4.out⟩
         have:=HO.out
         simpa using this
        case measure=>simp [intOf];omega
     ·have iz:decide ((i:Int) < (n:Int))=false:=by simp;omega
      have HE:Hid (qdk (s.data.toList.drop p) top=.ok ns (q - p1 + k)):=by
       show _=_
       have e1:n - i=0:=by omega
       rw [HU.out,HUN.out,e1]
       simp [unL,UR.glue]
       omega
      obtain ⟨A,cp,rfl,hrd,hnil,hlo⟩:=RdI.of_owns (xs:=ns.map Int.ofNat) (by simpa using hown)
      have HLO:=hI hlo
      have HRD:=hI hrd
      have HNI:Hid ((A=none→cp=0)∧ns.length≤cp):=⟨hnil.1,by have:=hnil.2;simpa using this⟩
      clear hrd hnil hown hlo
      go_wp2
      go_ret3
      rw [HE.out]
      refine ⟨HB.out,A,cp,?_,HRD.out,HNI.out,HLO.out⟩
      have e1:q=p + (q - p1 + k):=by have:=HP1.out;omega
      have e2:(ns.map Int.ofNat).length=ns.length:=by simp
      simp only [←e1]
      first | rfl | (rw [←e2];rfl)
end Go.Proofs.YtjkecckndfcbjaaGreatDoor
namespace Go.Proofs.YtjkecckndfcbjaaGreatDoor
open Go.RowKit Go.Sort Go.Lib
def pcN (x:Nat):Nat→Nat
 | 0=>0
 | k + 1=>pcN x k + if x.testBit k then 1 else 0
def F1 (x:Int):Int:=IntKind.u64.wrap (bits .and .u64 (x / 2) 6148914691236517205 + bits .and .u64 x 6148914691236517205)
def F2 (y:Int):Int:=IntKind.u64.wrap (bits .and .u64 (y / 4) 3689348814741910323 + bits .and .u64 y 3689348814741910323)
def F3 (y:Int):Int:=bits .and .u64 (y / 16 + y) 1085102592571150095
def F4 (y:Int):Int:=bits .and .i64 (y + y / 256 + (y + y / 256) / 65536 + (y + y / 256 + (y + y / 256) / 65536) / 4294967296) 127
theorem pc_all:∀ x:Fin 512,0≤F1 (x.1:Int)∧F1 (x.1:Int)≤5000∧0≤F2 (F1 (x.1:Int))∧F2 (F1 (x.1:Int))≤5000∧0≤F3 (F2 (F1 (x.1:Int)))∧F3 (F2 (F1 (x.1:Int)))≤5000∧F4 (F3 (F2 (F1 (x.1:Int))))=(pcN x.1 9:Int):=by decide +kernel
set_option maxHeartbeats 1000000 in
theorem qxj (x:Nat) (w:World) (h1:x≤511) :
 Calls Tryz.prog 193 #[.int .u64 x] w fun e w'=>e=.returned (.int .i64 (pcN x 9))∧w=w':=by
 obtain ⟨a1,b1,a2,b2,a3,b3,hp⟩:=pc_all ⟨x,by omega⟩
 have HP:Hid (F4 (F3 (F2 (F1 (x:Int))))=(pcN x 9:Int)):=hp
 simp only [] at a1 b1 a2 b2 a3 b3
 have e1:IntKind.u64.wrap (bits .and .u64 ((x:Int) / 2) 6148914691236517205 + bits .and .u64 (x:Int) 6148914691236517205)=F1 (x:Int):=rfl
 generalize F1 (x:Int)=y1 at *
 have e2:IntKind.u64.wrap (bits .and .u64 (y1 / 4) 3689348814741910323 + bits .and .u64 y1 3689348814741910323)=F2 y1:=rfl
 generalize F2 y1=y2 at *
 have e3:bits .and .u64 (y2 / 16 + y2) 1085102592571150095=F3 y2:=rfl
 generalize F3 y2=y3 at *
 have x0:(0:Int)≤x:=by omega
 clear hp
 go_enter Tryz.func193,Tryz.ntmps193
 go_wp2
 go_ret
 exact ⟨qrr (by rw [←HP.out];rfl),rfl⟩
theorem Ones_any (x:Nat) (w:World) (h1:x≤511) :
 Calls Tryz.prog 191 #[.int .u64 x] w fun e w'=>e=.returned (.int .i64 (pcN x 9))∧w=w':=by
 go_enter Tryz.func191,Tryz.ntmps191
 go_wp2_with (go_at_call 193;refine (qxj _ _ h1).mono ?_;rintro e w' ⟨rfl,rfl⟩)
 go_ret
 exact ⟨rfl,rfl⟩
theorem may_any (s:Int) (w:World) :
 Calls Tryz.prog 190 #[.int .i64 s] w fun e w'=>e=.returned (.bool (decide (0≤s∧s≤511)))∧w=w':=by
 go_enter Tryz.func190,Tryz.ntmps190
 go_wp2
 all_goals
  go_ret
  exact ⟨qah (by simp <;> omega),rfl⟩
theorem Count_any (x:Nat) (w:World) (h1:x≤511) :
 Calls Tryz.prog 188 #[.int .i64 x] w fun e w'=>e=.returned (.int .i64 (pcN x 9))∧w=w':=by
 have hm:=may_any (x:Int)
 rw [show decide (0≤(x:Int)∧(x:Int)≤511)=true by simp;omega] at hm
 have HM:=hI hm;clear hm
 go_enter Tryz.func188,Tryz.ntmps188
 go_wp2_with (first | (go_at_call 190;refine (HM.out _).mono ?_;rintro e w' ⟨rfl,rfl⟩) | (go_at_call 191;refine (Ones_any _ _ h1).mono ?_;rintro e w' ⟨rfl,rfl⟩))
 go_ret
 exact ⟨rfl,rfl⟩
theorem pc_pos:∀ x:Fin 512,0 < x.1→0 < pcN x.1 9:=by decide +kernel
def qbj (t:Int):Bool:=decide (1≤t∧t≤1000000)
def qdd (t:Int):Bool:=decide (0≤t∧t≤1000000)
def okId (id:Int):Bool:=decide (10≤id∧id≤999999∧id % 10≠0)
theorem qdz (t:Int) (w:World) :
 Calls Tryz.prog 180 #[.int .i64 t] w fun e w'=>e=.returned (.bool (qbj t))∧w=w':=by
 go_enter Tryz.func180,Tryz.ntmps180
 go_wp2
 all_goals
  go_ret
  exact ⟨qah (by unfold qbj;simp <;> omega),rfl⟩
theorem qvs (t:Int) (w:World) :
 Calls Tryz.prog 184 #[.int .i64 t] w fun e w'=>e=.returned (.bool (qdd t))∧w=w':=by
 go_enter Tryz.func184,Tryz.ntmps184
 go_wp2
 all_goals
  go_ret
  exact ⟨qah (by unfold qdd;simp <;> omega),rfl⟩
theorem qcw (t:Int) (w:World) :
 Calls Tryz.prog 182 #[.int .i64 t] w fun e w'=>e=.returned (.bool (qbj t))∧w=w':=by
 go_enter Tryz.func182,Tryz.ntmps182
 go_wp2
 all_goals
  go_ret
  exact ⟨qah (by unfold qbj;simp <;> omega),rfl⟩
def idE (id:Int):Int:=if okId id then 0 else 31
set_option maxHeartbeats 400000 in
theorem qbw (id:Int) (w:World) :
 Calls Tryz.prog 179 #[.int .i64 id] w fun e w'=>e=.returned (.int .i64 (idE id))∧w=w':=by
 go_enter Tryz.func179,Tryz.ntmps179
 go_wp2
 all_goals
  go_ret
  exact ⟨qrr (by unfold idE okId;split <;> simp_all <;> omega),rfl⟩
theorem qgw (id:Int):(idE id != 0) = !okId id:=by unfold idE;cases okId id <;> rfl
def carB (m:PM):Bool:=decide (1≤m.q∧m.q≤511∧m.pay.size≤300)
set_option maxRecDepth 100000 in
set_option maxHeartbeats 1000000 in
theorem qcg (m:PM) (w:World) (hp:m.pay.size≤1000000) :
 Calls Tryz.prog 181 #[msgV m] w fun e w'=>e=.returned (.bool (carB m))∧Below w.heap.size w w':=by
 unfold msgV
 by_cases h0:0 < m.q
 ·by_cases h1:m.q≤511
  ·obtain ⟨x,hx⟩:∃ x:Nat,m.q=(x:Int):=⟨m.q.toNat,by omega⟩
   have hc:=pc_pos ⟨x,by omega⟩ (by simp;omega)
   simp only at hc
   have HC:=hI (fun W=>Count_any x W (by omega))
   generalize pcN x 9=c at hc HC
   have hcz:(0:Int) < (c:Int):=by omega
   have HB:Hid (carB m=decide (m.pay.size≤300)):=decide_eq_decide.2 ⟨fun h=>h.2.2,fun h=>⟨by omega,by omega,h⟩⟩
   have hx0:(0:Int) < (x:Int):=by omega
   rw [hx]
   clear hx h0 h1 hc
   go_enter Tryz.func181,Tryz.ntmps181
   go_wp2_with (go_at_call 188;refine (HC.out _).mono ?_;rintro e w' ⟨rfl,rfl⟩)
   all_goals
    go_ret
    exact ⟨qah (by rw [HB.out];simp <;> omega),bel1 w _⟩
  ·have HM:Hid (∀ W,Calls Tryz.prog 188 #[.int .i64 m.q] W fun e w'=>e=.returned (.int .i64 0)∧W=w'):=by
    intro W
    have hm:=may_any m.q W
    rw [show decide (0≤m.q∧m.q≤511)=false by simp;omega] at hm
    have HM:=hI hm;clear hm
    go_enter Tryz.func188,Tryz.ntmps188
    go_wp2_with (go_at_call 190;refine HM.out.mono ?_;rintro e w' ⟨rfl,rfl⟩)
    go_ret
    exact ⟨rfl,rfl⟩
   have HB:Hid (carB m=false):=by show _=_;unfold carB;simp;omega
   rw [HB.out]
   go_enter Tryz.func181,Tryz.ntmps181
   go_wp2_with (go_at_call 188;refine (HM.out _).mono ?_;rintro e w' ⟨rfl,rfl⟩)
   go_ret
   exact ⟨rfl,bel1 w _⟩
 ·have HB:Hid (carB m=false):=by show _=_;unfold carB;simp;omega
  rw [HB.out]
  have h0':decide ((0:Int) < m.q)=false:=by simp;omega
  go_enter Tryz.func181,Tryz.ntmps181
  go_wp2
  go_ret
  exact ⟨rfl,bel1 w _⟩
theorem beqI (a b:Int):(a == b)=decide (a=b):=by by_cases h:a=b <;> simp [h]
def tolB (m:PM):Bool:=decide (0≤m.abal∧m.abal < m.bal∧1≤m.t∧m.t≤1000000∧1≤m.ph∧m.ph≤4∧(0 < m.abal∨3≤m.ph))
set_option maxRecDepth 100000 in
set_option maxHeartbeats 1000000 in
theorem qek (m:PM) (w:World) :
 Calls Tryz.prog 183 #[msgV m] w fun e w'=>e=.returned (.bool (tolB m))∧Below w.heap.size w w':=by
 unfold msgV
 have HT:=hI (fun W=>qdz m.t W)
 cases ht:qbj m.t
 ·rw [ht] at HT
  have HB:Hid (tolB m=false):=by show _=_;unfold tolB;unfold qbj at ht;simp at ht ⊢;omega
  rw [HB.out]
  clear ht
  go_enter Tryz.func183,Tryz.ntmps183
  go_wp2_with (go_at_call 180;refine (HT.out _).mono ?_;rintro e w' ⟨rfl,rfl⟩)
  all_goals
   go_ret
   exact ⟨rfl,bel1 w _⟩
 ·rw [ht] at HT
  have hk:1≤m.t∧m.t≤1000000:=by unfold qbj at ht;simpa using ht
  have HK:=hI hk
  clear ht hk
  have e0:∃ f,Hid (f=decide (m.abal=0))∧(m.abal == 0)=f:=⟨_,hI rfl,beqI _ _⟩
  have e3:∃ f,Hid (f=decide (m.ph=3))∧(m.ph == 3)=f:=⟨_,hI rfl,beqI _ _⟩
  have e4:∃ f,Hid (f=decide (m.ph=4))∧(m.ph == 4)=f:=⟨_,hI rfl,beqI _ _⟩
  obtain ⟨f0,H0,b0⟩:=e0
  obtain ⟨f3,H3,b3⟩:=e3
  obtain ⟨f4,H4,b4⟩:=e4
  cases f0 <;> cases f3 <;> cases f4
  all_goals
   go_enter Tryz.func183,Tryz.ntmps183
   go_wp2_with (go_at_call 180;refine (HT.out _).mono ?_;rintro e w' ⟨rfl,rfl⟩)
  all_goals
   go_ret
   exact ⟨qah (by
    have h1:=HK.out
    have h2:=H0.out
    have h3:=H3.out
    have h4:=H4.out
    simp at h2 h3 h4
    unfold tolB
    first
    | (symm;rw [decide_eq_true_iff];omega)
    | (symm;rw [decide_eq_false_iff_not];omega)
    | (rw [decide_eq_decide];omega)),bel1 w _⟩
end Go.Proofs.YtjkecckndfcbjaaGreatDoor
namespace Go.Proofs.YtjkecckndfcbjaaGreatDoor
open Go.RowKit Go.Sort Go.Lib
def attL (hi:Int):Int→List (Int×Int)→Bool
 | _,[]=>true
 | lo,a :: l=>decide (lo < a.1∧a.1≤hi) && okId a.2 && attL hi a.1 l
theorem qvt {α:Type} [Inhabited α] (d:Array α) (k:Nat) (h:k < d.size):d.toList.drop k=d[k]! :: d.toList.drop (k + 1):=by
 rw [List.drop_eq_getElem_cons (by simpa using h),getElem!_pos d k h];rfl
def AttR (lo hi:Int) (d:Array (Int×Int)) (w:World) (lv iv:Value) (wr:World):Prop:=∃ (k:Nat) (last:Int),iv=.int .i64 (k:Int)∧lv=.int .i64 last∧k≤d.size∧attL hi lo d.toList=attL hi last (d.toList.drop k)∧Below w.heap.size w wr
set_option maxRecDepth 100000 in
set_option maxHeartbeats 1000000 in
theorem qre (A:Option Addr) (c:Nat) (d:Array (Int×Int)) (lo hi:Int) (w:World) (h:RdK encA 2 w.heap.size w A d) (hs:d.size≤1000000) :
 Calls Tryz.prog 186 #[.slice A d.size c,.int .i64 lo,.int .i64 hi] w fun e w'=>e=.returned (.bool (attL hi lo d.toList && decide (d.size≤200)))∧Below w.heap.size w w':=by
 have HR:=hI h
 clear h
 go_enter Tryz.func186,Tryz.ntmps186
 go_wp2
 go_loopw [7,13] (fun lv iv wr=>AttR lo hi d w lv iv wr) (fun _ i _=>d.size - (intOf i).toNat)
 case atStart=>exact ⟨0,lo,rfl,rfl,Nat.zero_le _,rfl,Below.refl _ _⟩
 case round =>
  obtain ⟨k,last,rfl,rfl,hk,hat,hB⟩:=hrel
  have HAT:=hI hat
  have HB:=hI hB
  clear hat hB
  by_cases hlt:k < d.size
  ·have kz:(k:Int) < (d.size:Int):=by omega
   obtain ⟨b,off,rfl,hbl,f⟩:=(HR.out.below HB.out).at_ hlt
   have e0:=f 0 (by omega)
   have e1:=f 1 (by omega)
   have HD:=hI (qvt d k hlt)
   generalize d[k]! = x at e0 e1 HD
   simp only [Nat.add_zero,encA,List.getElem!_cons_zero,List.getElem!_cons_succ] at e0 e1
   clear f
   have HI:=hI (fun W=>qbw x.2 W)
   have hne:=qgw x.2
   cases hid:okId x.2
   ·rw [hid] at hne
    have HF:Hid (attL hi lo d.toList=false):=by show _=_;rw [HAT.out,HD.out];simp [attL,hid]
    clear hid
    go_wp2_with (go_at_call 179;refine (HI.out _).mono ?_;rintro e w' ⟨rfl,rfl⟩)
    all_goals
     go_ret
     exact ⟨qah (by rw [HF.out];rfl),qab HB.out _⟩
   ·rw [hid] at hne
    by_cases hr:last < x.1∧x.1≤hi
    ·have h1:decide (x.1≤last)=false:=by simp;omega
     have h2:decide (hi < x.1)=false:=by simp;omega
     have HN:Hid (attL hi lo d.toList=attL hi x.1 (d.toList.drop (k + 1))):=by show _=_;rw [HAT.out,HD.out];simp [attL,hid,hr]
     clear hid hr
     go_wp2_with (go_at_call 179;refine (HI.out _).mono ?_;rintro e w' ⟨rfl,rfl⟩)
     go_roundw
     case rel=>exact ⟨k + 1,x.1,by go_num,rfl,by omega,HN.out,qab HB.out _⟩
     case measure=>simp [intOf];omega
    ·have HF:Hid (attL hi lo d.toList=false):=by show _=_;rw [HAT.out,HD.out];simp [attL];intro h1 h2;omega
     clear hid
     by_cases h1:x.1≤last
     ·clear hr
      go_wp2
      go_ret
      exact ⟨qah (by rw [HF.out];rfl),qab HB.out _⟩
     ·have h2:hi < x.1:=by omega
      have h1':decide (x.1≤last)=false:=by simp;omega
      clear hr h1
      go_wp2
      go_ret
      exact ⟨qah (by rw [HF.out];rfl),qab HB.out _⟩
  ·have hlt':decide ((k:Int) < (d.size:Int))=false:=by simp;omega
   have HE:Hid (attL hi lo d.toList=true):=by
    show _=_
    rw [HAT.out,List.drop_of_length_le (by simp;omega)];rfl
   go_wp2
   go_ret
   exact ⟨qah (by rw [HE.out,Bool.true_and];simp <;> omega),HB.out⟩
theorem none_any (t:Int) (w:World) :
 Calls Tryz.prog 185 #[.int .i64 t] w fun e w'=>e=.returned (.bool (!qdd t))∧w=w':=by
 have HM:=hI (fun W=>qvs t W)
 go_enter Tryz.func185,Tryz.ntmps185
 go_wp2_with (go_at_call 184;refine (HM.out _).mono ?_;rintro e w' ⟨rfl,rfl⟩)
 go_ret
 exact ⟨rfl,rfl⟩
def mksB (d:Array Int):Bool:=decide (∀ j,j < d.size→qdd d[j]! = true)
def IdxR (d:Array Int) (e:Ending):Prop:=∃ r:Int,e=.returned (.int .i64 r)∧((0≤r∧mksB d=false)∨(r = -1∧mksB d=true))
set_option maxRecDepth 100000 in
set_option maxHeartbeats 1000000 in
theorem qoj (A:Option Addr) (c:Nat) (d:Array Int) (w:World) (h:RdI w.heap.size w A d) (hs:d.size≤1000000) :
 Calls Tryz.prog 189 #[.slice A d.size c,.func (.func 185) #[] #[]] w fun e w'=>IdxR d e∧w=w':=by
 have HR:=hI h
 clear h
 go_enter Tryz.func189,Tryz.ntmps189
 go_wp2
 go_loop [8] (fun i=>∃ k:Nat,i=.int .i64 k∧k≤d.size∧Hid (∀ j,j < k→qdd d[j]! = true)) (fun i=>d.size - (intOf i).toNat)
 case atStart=>exact ⟨0,rfl,Nat.zero_le _,hI (fun j hj=>absurd hj (by omega))⟩
 case round =>
  obtain ⟨k,rfl,hk,hall⟩:=hrel
  by_cases hlt:k < d.size
  ·have kz:(k:Int) < (d.size:Int):=by omega
   obtain ⟨b,off,rfl,hbl,hc⟩:=HR.out.at_ hlt
   obtain ⟨x,hx⟩:∃ x,d[k]! = x:=⟨_,rfl⟩
   rw [hx] at hc
   have HX:=hI hx
   have HN:=hI (fun W=>none_any x W)
   clear hx
   cases hm:qdd x
   ·rw [hm] at HN
    have HF:Hid (mksB d=false):=by
     show _=_
     unfold mksB
     rw [decide_eq_false_iff_not]
     intro hh
     have:=hh k hlt
     rw [HX.out,hm] at this
     cases this
    clear hm
    go_wp2_with (go_at_call 185;refine (HN.out _).mono ?_;rintro e w' ⟨rfl,rfl⟩)
    go_ret
    exact ⟨⟨k,rfl,Or.inl ⟨by omega,HF.out⟩⟩,rfl⟩
   ·rw [hm] at HN
    have HM:=hI hm
    clear hm
    go_wp2_with (go_at_call 185;refine (HN.out _).mono ?_;rintro e w' ⟨rfl,rfl⟩)
    go_round
    case rel =>
     refine ⟨k + 1,by go_num,by omega,hI (fun j hj=>?_)⟩
     rcases Nat.lt_or_ge j k with h | h
     ·exact hall.out j h
     ·obtain rfl:j=k:=by omega
      rw [HX.out];exact HM.out
    case measure=>simp [intOf];omega
  ·have hlt':decide ((k:Int) < (d.size:Int))=false:=by simp;omega
   go_wp2
   go_ret
   exact ⟨⟨-1,rfl,Or.inr ⟨rfl,by unfold mksB;rw [decide_eq_true_iff];exact fun j hj=>hall.out j (by omega)⟩⟩,rfl⟩
theorem qjl (A:Option Addr) (c:Nat) (d:Array Int) (w:World) (h:RdI w.heap.size w A d) (hs:d.size≤1000000) :
 Calls Tryz.prog 187 #[.slice A d.size c,.func (.func 185) #[] #[]] w fun e w'=>e=.returned (.bool (!mksB d))∧w=w':=by
 have HI:=hI (qoj A c d w h hs)
 clear h
 go_enter Tryz.func187,Tryz.ntmps187
 go_wp2_with fail
 refine HI.out.mono ?_
 rintro e w' ⟨⟨r,rfl,hr⟩,rfl⟩
 have HRR:=hI hr
 clear hr
 go_wp2
 go_ret
 refine ⟨qah ?_,rfl⟩
 rcases HRR.out with ⟨h1,h2⟩ | ⟨h1,h2⟩
 ·rw [h2];simp;omega
 ·rw [h2];simp;omega
def proB (m:PM):Bool:=decide (0≤m.lo∧m.lo≤1000000∧0≤m.hi∧m.hi≤1000000∧m.lo≤m.hi∧0≤m.dn∧m.dn≤1000000∧m.mks.size≤9) && (attL m.hi m.lo m.ats.toList && decide (m.ats.size≤200)) && mksB m.mks
set_option maxRecDepth 100000 in
set_option maxHeartbeats 2000000 in
theorem qrf (m:PM) (w:World) (hm:RdM w m) :
 Calls Tryz.prog 178 #[msgV m] w fun e w'=>e=.returned (.bool (proB m))∧Below w.heap.size w w':=by
 have HK:=hI (fun t W=>qvs t W)
 have HA:=hI (fun W (h:Below w.heap.size w W)=>qre m.aA m.aC m.ats m.lo m.hi W (hm.next h).ra hm.sa)
 have HC:=hI (fun W (h:Below w.heap.size w W)=>qjl m.mA m.mC m.mks W (hm.next h).rm hm.sm)
 unfold msgV
 by_cases hb:0≤m.lo∧m.lo≤1000000∧0≤m.hi∧m.hi≤1000000∧m.lo≤m.hi∧0≤m.dn∧m.dn≤1000000∧m.mks.size≤9
 ·have HP:Hid (proB m=((attL m.hi m.lo m.ats.toList && decide (m.ats.size≤200)) && mksB m.mks)):=by show _=_;unfold proB;rw [decide_eq_true_iff.2 hb];simp
  obtain ⟨b1,b2,b3,b4,b5,b6,b7,b8⟩:=hb
  have k1:qdd m.lo=true:=by unfold qdd;simp;omega
  have k2:qdd m.hi=true:=by unfold qdd;simp;omega
  have k3:qdd m.dn=true:=by unfold qdd;simp;omega
  have h8:(m.mks.size:Int)≤9:=by omega
  have h5:decide (m.hi < m.lo)=false:=by simp;omega
  generalize (attL m.hi m.lo m.ats.toList && decide (m.ats.size≤200))=fa at HA HP
  generalize mksB m.mks=fc at HC HP
  cases fa
  ·go_enter Tryz.func178,Tryz.ntmps178
   go_wp2_with (first | (go_at_call 184;refine (HK.out _ _).mono ?_;rintro e w' ⟨rfl,rfl⟩) | (go_at_call 186;refine (HA.out _ (bel1 w _)).mono ?_;rintro e w1 ⟨rfl,hb1⟩;have HB1:=hI (qad (bel1 w _) hb1);clear hb1))
   go_ret
   exact ⟨qah (by rw [HP.out];rfl),HB1.out⟩
  ·go_enter Tryz.func178,Tryz.ntmps178
   go_wp2_with (first | (go_at_call 184;refine (HK.out _ _).mono ?_;rintro e w' ⟨rfl,rfl⟩) | (go_at_call 186;refine (HA.out _ (bel1 w _)).mono ?_;rintro e w1 ⟨rfl,hb1⟩;have q1:w1.cell? ⟨w.heap.size,12,none⟩=some (.slice m.mA m.mks.size m.mC):=(hb1.cell (p:=⟨w.heap.size,12,none⟩) (by simp)).trans (by simp);have HB1:=hI (qad (bel1 w _) hb1);clear hb1) | (go_at_call 187;refine (HC.out _ HB1.out).mono ?_;rintro e w2 ⟨rfl,rfl⟩))
   go_ret
   exact ⟨qah (by rw [HP.out];simp),HB1.out⟩
 ·have HP:Hid (proB m=false):=by show _=_;unfold proB;rw [decide_eq_false_iff_not.2 hb];simp
  clear HA HC
  cases k1:qdd m.lo
  ·clear hb
   go_enter Tryz.func178,Tryz.ntmps178
   go_wp2_with (go_at_call 184;refine (HK.out _ _).mono ?_;rintro e w' ⟨rfl,rfl⟩)
   go_ret
   exact ⟨qah HP.out.symm,bel1 w _⟩
  ·cases k2:qdd m.hi
   ·clear hb
    go_enter Tryz.func178,Tryz.ntmps178
    go_wp2_with (go_at_call 184;refine (HK.out _ _).mono ?_;rintro e w' ⟨rfl,rfl⟩)
    go_ret
    exact ⟨qah HP.out.symm,bel1 w _⟩
   ·by_cases h5:m.hi < m.lo
    ·clear hb
     go_enter Tryz.func178,Tryz.ntmps178
     go_wp2_with (go_at_call 184;refine (HK.out _ _).mono ?_;rintro e w' ⟨rfl,rfl⟩)
     go_ret
     exact ⟨qah HP.out.symm,bel1 w _⟩
    ·have h5':decide (m.hi < m.lo)=false:=by simp;omega
     cases k3:qdd m.dn
     ·clear hb h5
      go_enter Tryz.func178,Tryz.ntmps178
      go_wp2_with (go_at_call 184;refine (HK.out _ _).mono ?_;rintro e w' ⟨rfl,rfl⟩)
      go_ret
      exact ⟨qah HP.out.symm,bel1 w _⟩
     ·have h9:9 < m.mks.size:=by
       have g1:=k1
       have g2:=k2
       have g3:=k3
       unfold qdd at g1 g2 g3
       simp at g1 g2 g3
       omega
      have h9':(9:Int) < (m.mks.size:Int):=by omega
      clear hb h5 h9
      go_enter Tryz.func178,Tryz.ntmps178
      go_wp2_with (go_at_call 184;refine (HK.out _ _).mono ?_;rintro e w' ⟨rfl,rfl⟩)
      go_ret
      exact ⟨qah HP.out.symm,bel1 w _⟩
end Go.Proofs.YtjkecckndfcbjaaGreatDoor
namespace Go.Proofs.YtjkecckndfcbjaaGreatDoor
open Go.RowKit Go.Sort Go.Lib
def NameR (k:Int) (e:Ending):Prop:=∃ s:ByteArray,e=.returned (.string s)∧s.toList.isEmpty=decide (k < 1∨10 < k)
set_option maxRecDepth 100000 in
set_option maxHeartbeats 2000000 in
theorem Name_any (k:Int) (w:World) :
 Calls Tryz.prog 164 #[.int .i64 k] w fun e w'=>NameR k e∧Below w.heap.size w w':=by
 by_cases h0:k < 0
 ·go_enter Tryz.func164,Tryz.ntmps164
  go_wp2
  go_ret
  exact ⟨⟨_,rfl,by rw [Lib.toList_data];symm;simp;omega⟩,bel1 w _⟩
 ·by_cases h1:10 < k
  ·have h0':decide (k < 0)=false:=by simp;omega
   have h2:(11:Int)≤k:=by omega
   clear h0
   go_enter Tryz.func164,Tryz.ntmps164
   go_wp2
   go_ret
   exact ⟨⟨_,rfl,by rw [Lib.toList_data];symm;simp;omega⟩,bel1 w _⟩
  ·have:k=0∨k=1∨k=2∨k=3∨k=4∨k=5∨k=6∨k=7∨k=8∨k=9∨k=10:=by omega
   rcases this with rfl | rfl | rfl | rfl | rfl | rfl | rfl | rfl | rfl | rfl | rfl
   all_goals
    go_enter Tryz.func164,Tryz.ntmps164
    go_wp2
    go_ret
    exact ⟨⟨_,rfl,by rw [Lib.toList_data];rfl⟩,bel1 w _⟩
def mayB (m:PM):Bool:=if m.k=10 then proB m else okId m.id && (if m.k=1∨m.k=5 then qbj m.t && carB m else if m.k=3 then qbj m.t && qbj m.bal && carB m else if m.k=6 then qbj m.bal && carB m else if m.k=9 then carB m else if m.k=2 then qbj m.t else if m.k=7 then qbj m.bal && tolB m else qbj m.bal)
set_option maxRecDepth 100000 in
set_option maxHeartbeats 2000000 in
theorem may1_any (m:PM) (w:World) (hm:RdM w m) (hk:m.k=1) :
 Calls Tryz.prog 167 #[msgV m] w fun e w'=>e=.returned (.bool (mayB m))∧Below w.heap.size w w':=by
 have HI:=hI (fun W=>qbw m.id W)
 have HT:=hI (fun W=>qdz m.t W)
 have HL:=hI (fun W=>qcw m.bal W)
 have HC:=hI (fun W=>qcg m W hm.sp)
 have HD:=hI (fun W=>qek m W)
 have hne:=qgw m.id
 have HM:Hid (mayB m=(okId m.id && (qbj m.t && carB m))):=by show _=_;unfold mayB;simp [hk]
 unfold msgV at HC HD ⊢
 rw [hk] at HC HD ⊢
 generalize okId m.id=fI at hne HM
 generalize qbj m.t=fT at HT HM
 generalize carB m=fC at HC HM
 clear hk hm
 cases fI <;> cases fT <;> cases fC
 all_goals
  go_enter Tryz.func167,Tryz.ntmps167
  go_wp2_with (first | (go_at_call 179;refine (HI.out _).mono ?_;rintro e w' ⟨rfl,rfl⟩) | (go_at_call 180;refine (HT.out _).mono ?_;rintro e w' ⟨rfl,rfl⟩) | (go_at_call 182;refine (HL.out _).mono ?_;rintro e w' ⟨rfl,rfl⟩) | (go_at_call 181;refine (HC.out _).mono ?_;rintro e w1 ⟨rfl,hb1⟩;have HB1:=hI (qad (bel1 w _) hb1);clear hb1) | (go_at_call 183;refine (HD.out _).mono ?_;rintro e w1 ⟨rfl,hb1⟩;have HB1:=hI (qad (bel1 w _) hb1);clear hb1))
  go_ret
  first
  | exact ⟨qah (by rw [HM.out];rfl),HB1.out⟩
  | exact ⟨qah (by rw [HM.out];rfl),bel1 w _⟩
set_option maxRecDepth 100000 in
set_option maxHeartbeats 2000000 in
theorem may2_any (m:PM) (w:World) (hm:RdM w m) (hk:m.k=2) :
 Calls Tryz.prog 167 #[msgV m] w fun e w'=>e=.returned (.bool (mayB m))∧Below w.heap.size w w':=by
 have HI:=hI (fun W=>qbw m.id W)
 have HT:=hI (fun W=>qdz m.t W)
 have HL:=hI (fun W=>qcw m.bal W)
 have HC:=hI (fun W=>qcg m W hm.sp)
 have HD:=hI (fun W=>qek m W)
 have hne:=qgw m.id
 have HM:Hid (mayB m=(okId m.id && (qbj m.t))):=by show _=_;unfold mayB;simp [hk]
 unfold msgV at HC HD ⊢
 rw [hk] at HC HD ⊢
 generalize okId m.id=fI at hne HM
 generalize qbj m.t=fT at HT HM
 clear hk hm
 cases fI <;> cases fT
 all_goals
  go_enter Tryz.func167,Tryz.ntmps167
  go_wp2_with (first | (go_at_call 179;refine (HI.out _).mono ?_;rintro e w' ⟨rfl,rfl⟩) | (go_at_call 180;refine (HT.out _).mono ?_;rintro e w' ⟨rfl,rfl⟩) | (go_at_call 182;refine (HL.out _).mono ?_;rintro e w' ⟨rfl,rfl⟩) | (go_at_call 181;refine (HC.out _).mono ?_;rintro e w1 ⟨rfl,hb1⟩;have HB1:=hI (qad (bel1 w _) hb1);clear hb1) | (go_at_call 183;refine (HD.out _).mono ?_;rintro e w1 ⟨rfl,hb1⟩;have HB1:=hI (qad (bel1 w _) hb1);clear hb1))
  go_ret
  first
  | exact ⟨qah (by rw [HM.out];rfl),HB1.out⟩
  | exact ⟨qah (by rw [HM.out];rfl),bel1 w _⟩
set_option maxRecDepth 100000 in
set_option maxHeartbeats 2000000 in
theorem may3_any (m:PM) (w:World) (hm:RdM w m) (hk:m.k=3) :
 Calls Tryz.prog 167 #[msgV m] w fun e w'=>e=.returned (.bool (mayB m))∧Below w.heap.size w w':=by
 have HI:=hI (fun W=>qbw m.id W)
 have HT:=hI (fun W=>qdz m.t W)
 have HL:=hI (fun W=>qcw m.bal W)
 have HC:=hI (fun W=>qcg m W hm.sp)
 have HD:=hI (fun W=>qek m W)
 have hne:=qgw m.id
 have HM:Hid (mayB m=(okId m.id && (qbj m.t && qbj m.bal && carB m))):=by show _=_;unfold mayB;simp [hk]
 unfold msgV at HC HD ⊢
 rw [hk] at HC HD ⊢
 generalize okId m.id=fI at hne HM
 generalize qbj m.t=fT at HT HM
 generalize qbj m.bal=fL at HL HM
 generalize carB m=fC at HC HM
 clear hk hm
 cases fI <;> cases fT <;> cases fL <;> cases fC
 all_goals
  go_enter Tryz.func167,Tryz.ntmps167
  go_wp2_with (first | (go_at_call 179;refine (HI.out _).mono ?_;rintro e w' ⟨rfl,rfl⟩) | (go_at_call 180;refine (HT.out _).mono ?_;rintro e w' ⟨rfl,rfl⟩) | (go_at_call 182;refine (HL.out _).mono ?_;rintro e w' ⟨rfl,rfl⟩) | (go_at_call 181;refine (HC.out _).mono ?_;rintro e w1 ⟨rfl,hb1⟩;have HB1:=hI (qad (bel1 w _) hb1);clear hb1) | (go_at_call 183;refine (HD.out _).mono ?_;rintro e w1 ⟨rfl,hb1⟩;have HB1:=hI (qad (bel1 w _) hb1);clear hb1))
  go_ret
  first
  | exact ⟨qah (by rw [HM.out];rfl),HB1.out⟩
  | exact ⟨qah (by rw [HM.out];rfl),bel1 w _⟩
set_option maxRecDepth 100000 in
set_option maxHeartbeats 2000000 in
theorem may4_any (m:PM) (w:World) (hm:RdM w m) (hk:m.k=4) :
 Calls Tryz.prog 167 #[msgV m] w fun e w'=>e=.returned (.bool (mayB m))∧Below w.heap.size w w':=by
 have HI:=hI (fun W=>qbw m.id W)
 have HT:=hI (fun W=>qdz m.t W)
 have HL:=hI (fun W=>qcw m.bal W)
 have HC:=hI (fun W=>qcg m W hm.sp)
 have HD:=hI (fun W=>qek m W)
 have hne:=qgw m.id
 have HM:Hid (mayB m=(okId m.id && (qbj m.bal))):=by show _=_;unfold mayB;simp [hk]
 unfold msgV at HC HD ⊢
 rw [hk] at HC HD ⊢
 generalize okId m.id=fI at hne HM
 generalize qbj m.bal=fL at HL HM
 clear hk hm
 cases fI <;> cases fL
 all_goals
  go_enter Tryz.func167,Tryz.ntmps167
  go_wp2_with (first | (go_at_call 179;refine (HI.out _).mono ?_;rintro e w' ⟨rfl,rfl⟩) | (go_at_call 180;refine (HT.out _).mono ?_;rintro e w' ⟨rfl,rfl⟩) | (go_at_call 182;refine (HL.out _).mono ?_;rintro e w' ⟨rfl,rfl⟩) | (go_at_call 181;refine (HC.out _).mono ?_;rintro e w1 ⟨rfl,hb1⟩;have HB1:=hI (qad (bel1 w _) hb1);clear hb1) | (go_at_call 183;refine (HD.out _).mono ?_;rintro e w1 ⟨rfl,hb1⟩;have HB1:=hI (qad (bel1 w _) hb1);clear hb1))
  go_ret
  first
  | exact ⟨qah (by rw [HM.out];rfl),HB1.out⟩
  | exact ⟨qah (by rw [HM.out];rfl),bel1 w _⟩
set_option maxRecDepth 100000 in
set_option maxHeartbeats 2000000 in
theorem may5_any (m:PM) (w:World) (hm:RdM w m) (hk:m.k=5) :
 Calls Tryz.prog 167 #[msgV m] w fun e w'=>e=.returned (.bool (mayB m))∧Below w.heap.size w w':=by
 have HI:=hI (fun W=>qbw m.id W)
 have HT:=hI (fun W=>qdz m.t W)
 have HL:=hI (fun W=>qcw m.bal W)
 have HC:=hI (fun W=>qcg m W hm.sp)
 have HD:=hI (fun W=>qek m W)
 have hne:=qgw m.id
 have HM:Hid (mayB m=(okId m.id && (qbj m.t && carB m))):=by show _=_;unfold mayB;simp [hk]
 unfold msgV at HC HD ⊢
 rw [hk] at HC HD ⊢
 generalize okId m.id=fI at hne HM
 generalize qbj m.t=fT at HT HM
 generalize carB m=fC at HC HM
 clear hk hm
 cases fI <;> cases fT <;> cases fC
 all_goals
  go_enter Tryz.func167,Tryz.ntmps167
  go_wp2_with (first | (go_at_call 179;refine (HI.out _).mono ?_;rintro e w' ⟨rfl,rfl⟩) | (go_at_call 180;refine (HT.out _).mono ?_;rintro e w' ⟨rfl,rfl⟩) | (go_at_call 182;refine (HL.out _).mono ?_;rintro e w' ⟨rfl,rfl⟩) | (go_at_call 181;refine (HC.out _).mono ?_;rintro e w1 ⟨rfl,hb1⟩;have HB1:=hI (qad (bel1 w _) hb1);clear hb1) | (go_at_call 183;refine (HD.out _).mono ?_;rintro e w1 ⟨rfl,hb1⟩;have HB1:=hI (qad (bel1 w _) hb1);clear hb1))
  go_ret
  first
  | exact ⟨qah (by rw [HM.out];rfl),HB1.out⟩
  | exact ⟨qah (by rw [HM.out];rfl),bel1 w _⟩
set_option maxRecDepth 100000 in
set_option maxHeartbeats 2000000 in
theorem may6_any (m:PM) (w:World) (hm:RdM w m) (hk:m.k=6) :
 Calls Tryz.prog 167 #[msgV m] w fun e w'=>e=.returned (.bool (mayB m))∧Below w.heap.size w w':=by
 have HI:=hI (fun W=>qbw m.id W)
 have HT:=hI (fun W=>qdz m.t W)
 have HL:=hI (fun W=>qcw m.bal W)
 have HC:=hI (fun W=>qcg m W hm.sp)
 have HD:=hI (fun W=>qek m W)
 have hne:=qgw m.id
 have HM:Hid (mayB m=(okId m.id && (qbj m.bal && carB m))):=by show _=_;unfold mayB;simp [hk]
 unfold msgV at HC HD ⊢
 rw [hk] at HC HD ⊢
 generalize okId m.id=fI at hne HM
 generalize qbj m.bal=fL at HL HM
 generalize carB m=fC at HC HM
 clear hk hm
 cases fI <;> cases fL <;> cases fC
 all_goals
  go_enter Tryz.func167,Tryz.ntmps167
  go_wp2_with (first | (go_at_call 179;refine (HI.out _).mono ?_;rintro e w' ⟨rfl,rfl⟩) | (go_at_call 180;refine (HT.out _).mono ?_;rintro e w' ⟨rfl,rfl⟩) | (go_at_call 182;refine (HL.out _).mono ?_;rintro e w' ⟨rfl,rfl⟩) | (go_at_call 181;refine (HC.out _).mono ?_;rintro e w1 ⟨rfl,hb1⟩;have HB1:=hI (qad (bel1 w _) hb1);clear hb1) | (go_at_call 183;refine (HD.out _).mono ?_;rintro e w1 ⟨rfl,hb1⟩;have HB1:=hI (qad (bel1 w _) hb1);clear hb1))
  go_ret
  first
  | exact ⟨qah (by rw [HM.out];rfl),HB1.out⟩
  | exact ⟨qah (by rw [HM.out];rfl),bel1 w _⟩
set_option maxRecDepth 100000 in
set_option maxHeartbeats 2000000 in
theorem may7_any (m:PM) (w:World) (hm:RdM w m) (hk:m.k=7) :
 Calls Tryz.prog 167 #[msgV m] w fun e w'=>e=.returned (.bool (mayB m))∧Below w.heap.size w w':=by
 have HI:=hI (fun W=>qbw m.id W)
 have HT:=hI (fun W=>qdz m.t W)
 have HL:=hI (fun W=>qcw m.bal W)
 have HC:=hI (fun W=>qcg m W hm.sp)
 have HD:=hI (fun W=>qek m W)
 have hne:=qgw m.id
 have HM:Hid (mayB m=(okId m.id && (qbj m.bal && tolB m))):=by show _=_;unfold mayB;simp [hk]
 unfold msgV at HC HD ⊢
 rw [hk] at HC HD ⊢
 generalize okId m.id=fI at hne HM
 generalize qbj m.bal=fL at HL HM
 generalize tolB m=fD at HD HM
 clear hk hm
 cases fI <;> cases fL <;> cases fD
 all_goals
  go_enter Tryz.func167,Tryz.ntmps167
  go_wp2_with (first | (go_at_call 179;refine (HI.out _).mono ?_;rintro e w' ⟨rfl,rfl⟩) | (go_at_call 180;refine (HT.out _).mono ?_;rintro e w' ⟨rfl,rfl⟩) | (go_at_call 182;refine (HL.out _).mono ?_;rintro e w' ⟨rfl,rfl⟩) | (go_at_call 181;refine (HC.out _).mono ?_;rintro e w1 ⟨rfl,hb1⟩;have HB1:=hI (qad (bel1 w _) hb1);clear hb1) | (go_at_call 183;refine (HD.out _).mono ?_;rintro e w1 ⟨rfl,hb1⟩;have HB1:=hI (qad (bel1 w _) hb1);clear hb1))
  go_ret
  first
  | exact ⟨qah (by rw [HM.out];rfl),HB1.out⟩
  | exact ⟨qah (by rw [HM.out];rfl),bel1 w _⟩
set_option maxRecDepth 100000 in
set_option maxHeartbeats 2000000 in
theorem may8_any (m:PM) (w:World) (hm:RdM w m) (hk:m.k=8) :
 Calls Tryz.prog 167 #[msgV m] w fun e w'=>e=.returned (.bool (mayB m))∧Below w.heap.size w w':=by
 have HI:=hI (fun W=>qbw m.id W)
 have HT:=hI (fun W=>qdz m.t W)
 have HL:=hI (fun W=>qcw m.bal W)
 have HC:=hI (fun W=>qcg m W hm.sp)
 have HD:=hI (fun W=>qek m W)
 have hne:=qgw m.id
 have HM:Hid (mayB m=(okId m.id && (qbj m.bal))):=by show _=_;unfold mayB;simp [hk]
 unfold msgV at HC HD ⊢
 rw [hk] at HC HD ⊢
 generalize okId m.id=fI at hne HM
 generalize qbj m.bal=fL at HL HM
 clear hk hm
 cases fI <;> cases fL
 all_goals
  go_enter Tryz.func167,Tryz.ntmps167
  go_wp2_with (first | (go_at_call 179;refine (HI.out _).mono ?_;rintro e w' ⟨rfl,rfl⟩) | (go_at_call 180;refine (HT.out _).mono ?_;rintro e w' ⟨rfl,rfl⟩) | (go_at_call 182;refine (HL.out _).mono ?_;rintro e w' ⟨rfl,rfl⟩) | (go_at_call 181;refine (HC.out _).mono ?_;rintro e w1 ⟨rfl,hb1⟩;have HB1:=hI (qad (bel1 w _) hb1);clear hb1) | (go_at_call 183;refine (HD.out _).mono ?_;rintro e w1 ⟨rfl,hb1⟩;have HB1:=hI (qad (bel1 w _) hb1);clear hb1))
  go_ret
  first
  | exact ⟨qah (by rw [HM.out];rfl),HB1.out⟩
  | exact ⟨qah (by rw [HM.out];rfl),bel1 w _⟩
set_option maxRecDepth 100000 in
set_option maxHeartbeats 2000000 in
theorem may9_any (m:PM) (w:World) (hm:RdM w m) (hk:m.k=9) :
 Calls Tryz.prog 167 #[msgV m] w fun e w'=>e=.returned (.bool (mayB m))∧Below w.heap.size w w':=by
 have HI:=hI (fun W=>qbw m.id W)
 have HT:=hI (fun W=>qdz m.t W)
 have HL:=hI (fun W=>qcw m.bal W)
 have HC:=hI (fun W=>qcg m W hm.sp)
 have HD:=hI (fun W=>qek m W)
 have hne:=qgw m.id
 have HM:Hid (mayB m=(okId m.id && (carB m))):=by show _=_;unfold mayB;simp [hk]
 unfold msgV at HC HD ⊢
 rw [hk] at HC HD ⊢
 generalize okId m.id=fI at hne HM
 generalize carB m=fC at HC HM
 clear hk hm
 cases fI <;> cases fC
 all_goals
  go_enter Tryz.func167,Tryz.ntmps167
  go_wp2_with (first | (go_at_call 179;refine (HI.out _).mono ?_;rintro e w' ⟨rfl,rfl⟩) | (go_at_call 180;refine (HT.out _).mono ?_;rintro e w' ⟨rfl,rfl⟩) | (go_at_call 182;refine (HL.out _).mono ?_;rintro e w' ⟨rfl,rfl⟩) | (go_at_call 181;refine (HC.out _).mono ?_;rintro e w1 ⟨rfl,hb1⟩;have HB1:=hI (qad (bel1 w _) hb1);clear hb1) | (go_at_call 183;refine (HD.out _).mono ?_;rintro e w1 ⟨rfl,hb1⟩;have HB1:=hI (qad (bel1 w _) hb1);clear hb1))
  go_ret
  first
  | exact ⟨qah (by rw [HM.out];rfl),HB1.out⟩
  | exact ⟨qah (by rw [HM.out];rfl),bel1 w _⟩
set_option maxRecDepth 100000 in
set_option maxHeartbeats 2000000 in
theorem may10_any (m:PM) (w:World) (hm:RdM w m) (hk:m.k=10) :
 Calls Tryz.prog 167 #[msgV m] w fun e w'=>e=.returned (.bool (mayB m))∧Below w.heap.size w w':=by
 have HP:=hI (fun W (h:Below w.heap.size w W)=>qrf m W (hm.next h))
 have HM:Hid (mayB m=proB m):=by show _=_;unfold mayB;simp [hk]
 unfold msgV at HP ⊢
 rw [hk] at HP ⊢
 clear hk hm
 go_enter Tryz.func167,Tryz.ntmps167
 go_wp2_with (go_at_call 178;refine (HP.out _ (bel1 w _)).mono ?_;rintro e w1 ⟨rfl,hb1⟩;have HB1:=hI (qad (bel1 w _) hb1);clear hb1)
 go_ret
 exact ⟨qah HM.out.symm,HB1.out⟩
theorem mayM_any (m:PM) (w:World) (hm:RdM w m) (h1:1≤m.k) (h2:m.k≤10) :
 Calls Tryz.prog 167 #[msgV m] w fun e w'=>e=.returned (.bool (mayB m))∧Below w.heap.size w w':=by
 have:m.k=1∨m.k=2∨m.k=3∨m.k=4∨m.k=5∨m.k=6∨m.k=7∨m.k=8∨m.k=9∨m.k=10:=by omega
 rcases this with h | h | h | h | h | h | h | h | h | h
 ·exact may1_any m w hm h
 ·exact may2_any m w hm h
 ·exact may3_any m w hm h
 ·exact may4_any m w hm h
 ·exact may5_any m w hm h
 ·exact may6_any m w hm h
 ·exact may7_any m w hm h
 ·exact may8_any m w hm h
 ·exact may9_any m w hm h
 ·exact may10_any m w hm h
end Go.Proofs.YtjkecckndfcbjaaGreatDoor
namespace Go.Proofs.YtjkecckndfcbjaaGreatDoor
open Go.RowKit Go.Sort Go.Lib
def qbq (m:PM):PM :=
 { k:=m.k,fr:=m.fr,id:=if m.k=10 then 0 else m.id,t:=if m.k=1∨m.k=2∨m.k=3∨m.k=5∨m.k=7 then m.t else 0,bal:=if m.k=3∨m.k=4∨m.k=6∨m.k=7∨m.k=8 then m.bal else 0,abal:=if m.k=7 then m.abal else 0,ph:=if m.k=7 then m.ph else 0,
   q:=if m.k=1∨m.k=3∨m.k=5∨m.k=6∨m.k=9 then m.q else 0,pay:=if m.k=1∨m.k=3∨m.k=5∨m.k=6∨m.k=9 then m.pay else ⟨#[]⟩,lo:=if m.k=10 then m.lo else 0,hi:=if m.k=10 then m.hi else 0,
   aA:=if m.k=10 then m.aA else none,aC:=if m.k=10 then m.aC else 0,ats:=if m.k=10 then m.ats else #[],mA:=if m.k=10 then m.mA else none,mC:=if m.k=10 then m.mC else 0,mks:=if m.k=10 then m.mks else #[],dn:=if m.k=10 then m.dn else 0 }
set_option maxRecDepth 100000 in
set_option maxHeartbeats 4000000 in
theorem bare1_any (m:PM) (w:World) (hk:m.k=1) :
 Calls Tryz.prog 166 #[msgV m] w fun e w'=>e=.returned (msgV (qbq m))∧Below w.heap.size w w':=by
 have HV:Hid (msgV (qbq m)=.agg #[.int .i64 1,.int .i64 m.fr,.int .i64 m.id,.int .i64 m.t,.int .i64 0,.int .i64 0,.int .i64 0,.int .i64 m.q,.string m.pay,.int .i64 0,.int .i64 0,.slice none 0 0,.slice none 0 0,.int .i64 0]):=by show _=_;unfold msgV qbq;simp [hk]
 rw [HV.out]
 unfold msgV
 rw [hk]
 clear hk HV
 go_enter Tryz.func166,Tryz.ntmps166
 go_wp2
 go_region
 all_goals go_wp2
 all_goals
  refine bodyPost_ret (v:=.agg #[.int .i64 1,.int .i64 m.fr,.int .i64 m.id,.int .i64 m.t,.int .i64 0,.int .i64 0,.int .i64 0,.int .i64 m.q,.string m.pay,.int .i64 0,.int .i64 0,.slice none 0 0,.slice none 0 0,.int .i64 0]) (by simp [results,Tryz.results166,go_sem]) rfl ⟨rfl,?_⟩
  first
  | exact qab (qab (bel1 w _) _) _
  | exact (qab (qab (bel1 w _) _) _).drew
set_option maxRecDepth 100000 in
set_option maxHeartbeats 4000000 in
theorem bare2_any (m:PM) (w:World) (hk:m.k=2) :
 Calls Tryz.prog 166 #[msgV m] w fun e w'=>e=.returned (msgV (qbq m))∧Below w.heap.size w w':=by
 have HV:Hid (msgV (qbq m)=.agg #[.int .i64 2,.int .i64 m.fr,.int .i64 m.id,.int .i64 m.t,.int .i64 0,.int .i64 0,.int .i64 0,.int .i64 0,.string ⟨#[]⟩,.int .i64 0,.int .i64 0,.slice none 0 0,.slice none 0 0,.int .i64 0]):=by show _=_;unfold msgV qbq;simp [hk]
 rw [HV.out]
 unfold msgV
 rw [hk]
 clear hk HV
 go_enter Tryz.func166,Tryz.ntmps166
 go_wp2
 all_goals
  refine bodyPost_ret (v:=.agg #[.int .i64 2,.int .i64 m.fr,.int .i64 m.id,.int .i64 m.t,.int .i64 0,.int .i64 0,.int .i64 0,.int .i64 0,.string ⟨#[]⟩,.int .i64 0,.int .i64 0,.slice none 0 0,.slice none 0 0,.int .i64 0]) (by simp [results,Tryz.results166,go_sem]) rfl ⟨rfl,?_⟩
  first
  | exact qab (qab (bel1 w _) _) _
  | exact (qab (qab (bel1 w _) _) _).drew
set_option maxRecDepth 100000 in
set_option maxHeartbeats 4000000 in
theorem bare3_any (m:PM) (w:World) (hk:m.k=3) :
 Calls Tryz.prog 166 #[msgV m] w fun e w'=>e=.returned (msgV (qbq m))∧Below w.heap.size w w':=by
 have HV:Hid (msgV (qbq m)=.agg #[.int .i64 3,.int .i64 m.fr,.int .i64 m.id,.int .i64 m.t,.int .i64 m.bal,.int .i64 0,.int .i64 0,.int .i64 m.q,.string m.pay,.int .i64 0,.int .i64 0,.slice none 0 0,.slice none 0 0,.int .i64 0]):=by show _=_;unfold msgV qbq;simp [hk]
 rw [HV.out]
 unfold msgV
 rw [hk]
 clear hk HV
 go_enter Tryz.func166,Tryz.ntmps166
 go_wp2
 go_region
 all_goals go_wp2
 all_goals
  refine bodyPost_ret (v:=.agg #[.int .i64 3,.int .i64 m.fr,.int .i64 m.id,.int .i64 m.t,.int .i64 m.bal,.int .i64 0,.int .i64 0,.int .i64 m.q,.string m.pay,.int .i64 0,.int .i64 0,.slice none 0 0,.slice none 0 0,.int .i64 0]) (by simp [results,Tryz.results166,go_sem]) rfl ⟨rfl,?_⟩
  first
  | exact qab (qab (bel1 w _) _) _
  | exact (qab (qab (bel1 w _) _) _).drew
set_option maxRecDepth 100000 in
set_option maxHeartbeats 4000000 in
theorem bare4_any (m:PM) (w:World) (hk:m.k=4) :
 Calls Tryz.prog 166 #[msgV m] w fun e w'=>e=.returned (msgV (qbq m))∧Below w.heap.size w w':=by
 have HV:Hid (msgV (qbq m)=.agg #[.int .i64 4,.int .i64 m.fr,.int .i64 m.id,.int .i64 0,.int .i64 m.bal,.int .i64 0,.int .i64 0,.int .i64 0,.string ⟨#[]⟩,.int .i64 0,.int .i64 0,.slice none 0 0,.slice none 0 0,.int .i64 0]):=by show _=_;unfold msgV qbq;simp [hk]
 rw [HV.out]
 unfold msgV
 rw [hk]
 clear hk HV
 go_enter Tryz.func166,Tryz.ntmps166
 go_wp2
 all_goals
  refine bodyPost_ret (v:=.agg #[.int .i64 4,.int .i64 m.fr,.int .i64 m.id,.int .i64 0,.int .i64 m.bal,.int .i64 0,.int .i64 0,.int .i64 0,.string ⟨#[]⟩,.int .i64 0,.int .i64 0,.slice none 0 0,.slice none 0 0,.int .i64 0]) (by simp [results,Tryz.results166,go_sem]) rfl ⟨rfl,?_⟩
  first
  | exact qab (qab (bel1 w _) _) _
  | exact (qab (qab (bel1 w _) _) _).drew
set_option maxRecDepth 100000 in
set_option maxHeartbeats 4000000 in
theorem bare5_any (m:PM) (w:World) (hk:m.k=5) :
 Calls Tryz.prog 166 #[msgV m] w fun e w'=>e=.returned (msgV (qbq m))∧Below w.heap.size w w':=by
 have HV:Hid (msgV (qbq m)=.agg #[.int .i64 5,.int .i64 m.fr,.int .i64 m.id,.int .i64 m.t,.int .i64 0,.int .i64 0,.int .i64 0,.int .i64 m.q,.string m.pay,.int .i64 0,.int .i64 0,.slice none 0 0,.slice none 0 0,.int .i64 0]):=by show _=_;unfold msgV qbq;simp [hk]
 rw [HV.out]
 unfold msgV
 rw [hk]
 clear hk HV
 go_enter Tryz.func166,Tryz.ntmps166
 go_wp2
 go_region
 all_goals go_wp2
 all_goals
  refine bodyPost_ret (v:=.agg #[.int .i64 5,.int .i64 m.fr,.int .i64 m.id,.int .i64 m.t,.int .i64 0,.int .i64 0,.int .i64 0,.int .i64 m.q,.string m.pay,.int .i64 0,.int .i64 0,.slice none 0 0,.slice none 0 0,.int .i64 0]) (by simp [results,Tryz.results166,go_sem]) rfl ⟨rfl,?_⟩
  first
  | exact qab (qab (bel1 w _) _) _
  | exact (qab (qab (bel1 w _) _) _).drew
set_option maxRecDepth 100000 in
set_option maxHeartbeats 4000000 in
theorem bare6_any (m:PM) (w:World) (hk:m.k=6) :
 Calls Tryz.prog 166 #[msgV m] w fun e w'=>e=.returned (msgV (qbq m))∧Below w.heap.size w w':=by
 have HV:Hid (msgV (qbq m)=.agg #[.int .i64 6,.int .i64 m.fr,.int .i64 m.id,.int .i64 0,.int .i64 m.bal,.int .i64 0,.int .i64 0,.int .i64 m.q,.string m.pay,.int .i64 0,.int .i64 0,.slice none 0 0,.slice none 0 0,.int .i64 0]):=by show _=_;unfold msgV qbq;simp [hk]
 rw [HV.out]
 unfold msgV
 rw [hk]
 clear hk HV
 go_enter Tryz.func166,Tryz.ntmps166
 go_wp2
 go_region
 all_goals go_wp2
 all_goals
  refine bodyPost_ret (v:=.agg #[.int .i64 6,.int .i64 m.fr,.int .i64 m.id,.int .i64 0,.int .i64 m.bal,.int .i64 0,.int .i64 0,.int .i64 m.q,.string m.pay,.int .i64 0,.int .i64 0,.slice none 0 0,.slice none 0 0,.int .i64 0]) (by simp [results,Tryz.results166,go_sem]) rfl ⟨rfl,?_⟩
  first
  | exact qab (qab (bel1 w _) _) _
  | exact (qab (qab (bel1 w _) _) _).drew
set_option maxRecDepth 100000 in
set_option maxHeartbeats 4000000 in
theorem bare7_any (m:PM) (w:World) (hk:m.k=7) :
 Calls Tryz.prog 166 #[msgV m] w fun e w'=>e=.returned (msgV (qbq m))∧Below w.heap.size w w':=by
 have HV:Hid (msgV (qbq m)=.agg #[.int .i64 7,.int .i64 m.fr,.int .i64 m.id,.int .i64 m.t,.int .i64 m.bal,.int .i64 m.abal,.int .i64 m.ph,.int .i64 0,.string ⟨#[]⟩,.int .i64 0,.int .i64 0,.slice none 0 0,.slice none 0 0,.int .i64 0]):=by show _=_;unfold msgV qbq;simp [hk]
 rw [HV.out]
 unfold msgV
 rw [hk]
 clear hk HV
 go_enter Tryz.func166,Tryz.ntmps166
 go_wp2
 go_region
 all_goals go_wp2
 all_goals
  refine bodyPost_ret (v:=.agg #[.int .i64 7,.int .i64 m.fr,.int .i64 m.id,.int .i64 m.t,.int .i64 m.bal,.int .i64 m.abal,.int .i64 m.ph,.int .i64 0,.string ⟨#[]⟩,.int .i64 0,.int .i64 0,.slice none 0 0,.slice none 0 0,.int .i64 0]) (by simp [results,Tryz.results166,go_sem]) rfl ⟨rfl,?_⟩
  first
  | exact qab (qab (bel1 w _) _) _
  | exact (qab (qab (bel1 w _) _) _).drew
set_option maxRecDepth 100000 in
set_option maxHeartbeats 4000000 in
theorem bare8_any (m:PM) (w:World) (hk:m.k=8) :
 Calls Tryz.prog 166 #[msgV m] w fun e w'=>e=.returned (msgV (qbq m))∧Below w.heap.size w w':=by
 have HV:Hid (msgV (qbq m)=.agg #[.int .i64 8,.int .i64 m.fr,.int .i64 m.id,.int .i64 0,.int .i64 m.bal,.int .i64 0,.int .i64 0,.int .i64 0,.string ⟨#[]⟩,.int .i64 0,.int .i64 0,.slice none 0 0,.slice none 0 0,.int .i64 0]):=by show _=_;unfold msgV qbq;simp [hk]
 rw [HV.out]
 unfold msgV
 rw [hk]
 clear hk HV
 go_enter Tryz.func166,Tryz.ntmps166
 go_wp2
 all_goals
  refine bodyPost_ret (v:=.agg #[.int .i64 8,.int .i64 m.fr,.int .i64 m.id,.int .i64 0,.int .i64 m.bal,.int .i64 0,.int .i64 0,.int .i64 0,.string ⟨#[]⟩,.int .i64 0,.int .i64 0,.slice none 0 0,.slice none 0 0,.int .i64 0]) (by simp [results,Tryz.results166,go_sem]) rfl ⟨rfl,?_⟩
  first
  | exact qab (qab (bel1 w _) _) _
  | exact (qab (qab (bel1 w _) _) _).drew
set_option maxRecDepth 100000 in
set_option maxHeartbeats 4000000 in
theorem bare9_any (m:PM) (w:World) (hk:m.k=9) :
 Calls Tryz.prog 166 #[msgV m] w fun e w'=>e=.returned (msgV (qbq m))∧Below w.heap.size w w':=by
 have HV:Hid (msgV (qbq m)=.agg #[.int .i64 9,.int .i64 m.fr,.int .i64 m.id,.int .i64 0,.int .i64 0,.int .i64 0,.int .i64 0,.int .i64 m.q,.string m.pay,.int .i64 0,.int .i64 0,.slice none 0 0,.slice none 0 0,.int .i64 0]):=by show _=_;unfold msgV qbq;simp [hk]
 rw [HV.out]
 unfold msgV
 rw [hk]
 clear hk HV
 go_enter Tryz.func166,Tryz.ntmps166
 go_wp2
 go_region
 all_goals go_wp2
 all_goals
  refine bodyPost_ret (v:=.agg #[.int .i64 9,.int .i64 m.fr,.int .i64 m.id,.int .i64 0,.int .i64 0,.int .i64 0,.int .i64 0,.int .i64 m.q,.string m.pay,.int .i64 0,.int .i64 0,.slice none 0 0,.slice none 0 0,.int .i64 0]) (by simp [results,Tryz.results166,go_sem]) rfl ⟨rfl,?_⟩
  first
  | exact qab (qab (bel1 w _) _) _
  | exact (qab (qab (bel1 w _) _) _).drew
set_option maxRecDepth 100000 in
set_option maxHeartbeats 4000000 in
theorem qxk (m:PM) (w:World) (hk:m.k=10) :
 Calls Tryz.prog 166 #[msgV m] w fun e w'=>e=.returned (msgV (qbq m))∧Below w.heap.size w w':=by
 have HV:Hid (msgV (qbq m)=.agg #[.int .i64 10,.int .i64 m.fr,.int .i64 0,.int .i64 0,.int .i64 0,.int .i64 0,.int .i64 0,.int .i64 0,.string ⟨#[]⟩,.int .i64 m.lo,.int .i64 m.hi,.slice m.aA m.ats.size m.aC,.slice m.mA m.mks.size m.mC,.int .i64 m.dn]):=by show _=_;unfold msgV qbq;simp [hk]
 rw [HV.out]
 unfold msgV
 rw [hk]
 clear hk HV
 go_enter Tryz.func166,Tryz.ntmps166
 go_wp2
 go_region
 all_goals go_wp2
 all_goals
  refine bodyPost_ret (v:=.agg #[.int .i64 10,.int .i64 m.fr,.int .i64 0,.int .i64 0,.int .i64 0,.int .i64 0,.int .i64 0,.int .i64 0,.string ⟨#[]⟩,.int .i64 m.lo,.int .i64 m.hi,.slice m.aA m.ats.size m.aC,.slice m.mA m.mks.size m.mC,.int .i64 m.dn]) (by simp [results,Tryz.results166,go_sem]) rfl ⟨rfl,?_⟩
  first
  | exact qab (qab (bel1 w _) _) _
  | exact (qab (qab (bel1 w _) _) _).drew
theorem bare_any (m:PM) (w:World) (h1:1≤m.k) (h2:m.k≤10) :
 Calls Tryz.prog 166 #[msgV m] w fun e w'=>e=.returned (msgV (qbq m))∧Below w.heap.size w w':=by
 have:m.k=1∨m.k=2∨m.k=3∨m.k=4∨m.k=5∨m.k=6∨m.k=7∨m.k=8∨m.k=9∨m.k=10:=by omega
 rcases this with h | h | h | h | h | h | h | h | h | h
 ·exact bare1_any m w h
 ·exact bare2_any m w h
 ·exact bare3_any m w h
 ·exact bare4_any m w h
 ·exact bare5_any m w h
 ·exact bare6_any m w h
 ·exact bare7_any m w h
 ·exact bare8_any m w h
 ·exact bare9_any m w h
 ·exact qxk m w h
end Go.Proofs.YtjkecckndfcbjaaGreatDoor
namespace Go.Proofs.YtjkecckndfcbjaaGreatDoor
open Go.RowKit Nb
def Wrt (B b:Nat) (l:List UInt8) (w:World):Prop:=Bld 214 [.nilIface] B b l w
theorem liesB_wrt:LiesB 214 3:=⟨by kernel_rfl,by decide⟩
theorem Wrt.below {B b:Nat} {l:List UInt8} {w w':World} (h:Wrt B b l w) (hb:Below w.heap.size w w'):Wrt B b l w':=Bld.below h hb
theorem Wrt.new (w:World):Wrt w.heap.size w.heap.size [] (w.alloc (.cells #[.pointer none,.slice none 0 0,.nilIface] 214)) :=
 Or.inl ⟨Nat.le_refl _,.slice none 0 0,by show (w.heap.push _)[w.heap.size]?=_;simp,World.ownsRow_nil _ _ _ _,by simp [Value.ownBlock]⟩
set_option maxRecDepth 100000 in
theorem qok (B b:Nat) (l:List UInt8) (piece s:ByteArray) (w:World) (h:Wrt B b l w) (hl:l.length + s.size≤1000000000) (hB:B≤w.heap.size) :
 Calls Tryz.prog 142 #[.pointer (some ⟨b,0,none⟩),.string piece,.string s,.int .i64 0] w fun e w'=>e=.returned (.tuple #[])∧Wrt B b (l ++ s.data.toList) w'∧Below B w w'∧KeepT b w w':=by
 have hf:w.cell? ⟨b,2,none⟩=some .nilIface:=Bld.field h 0
 have HW:=hI (qkj 214 [.nilIface] B b l s w liesB_wrt h hl hB)
 clear h
 go_enter Tryz.func142,Tryz.ntmps142
 go_wp2_with (go_at_call 153;refine HW.out.mono ?_;rintro e w' ⟨rfl,h2,hb2,hk2⟩;have H2:=hI h2;have HB2:=hI hb2;have HK2:=hI hk2;clear h2 hb2 hk2)
 go_end0
 exact ⟨rfl,Or.inr H2.out,HB2.out,HK2.out⟩
set_option maxRecDepth 100000 in
theorem qrg (B b:Nat) (l:List UInt8) (s:ByteArray) (w:World) (h:Wrt B b l w) (hl:l.length + s.size≤900000000) (hB:B≤w.heap.size) :
 Calls Tryz.prog 124 #[.pointer (some ⟨b,0,none⟩),.string s] w fun e w'=>e=.returned (.tuple #[])∧Wrt B b (l ++ qdf s.data.toList) w'∧Below B w w'∧KeepT b w w':=by
 have h9:=qax s.size (by omega)
 have HP:=hI (qrx s.size w (by omega))
 have H:=hI h
 obtain ⟨y,hy⟩:∃ y:ByteArray,y=⟨(numB s.size).toArray⟩:=⟨_,rfl⟩
 have hys:y.size≤9:=by rw [hy,qaz];exact h9
 rw [←hy] at HP
 obtain ⟨z,hz⟩:∃ z,y ++ s=z:=⟨_,rfl⟩
 have hzs:z.size≤9 + s.size:=by rw [←hz,ByteArray.size_append];omega
 have HZ:Hid (z.data.toList=qdf s.data.toList):=by
  have e0:z.data.toList=qdf s.data.toList:=by rw [←hz,hy];simp [qdf]
  exact e0
 clear h hy h9
 go_enter Tryz.func124,Tryz.ntmps124
 go_wp2_with fail
 refine HP.out.mono ?_
 rintro e w1 ⟨rfl,hb1⟩
 have HW:=hI (fun piece=>qok B b l piece z w1 (H.out.below hb1) (by omega) (Nat.le_trans hB hb1.size))
 have HB1:=hI hb1
 clear hb1
 go_wp2_with (go_at_call 142;refine (HW.out _).mono ?_;rintro e w' ⟨rfl,h2,hb2,hk2⟩;have H2:=hI h2;have HB2:=hI hb2;have HK2:=hI hk2;clear h2 hb2 hk2)
 go_end0
 exact ⟨rfl,by rw [←HZ.out];exact H2.out,(HB1.out.mono hB).trans HB2.out,(KeepT.of_below HB1.out).trans HK2.out⟩
theorem qvu {w:World} {g:Nat} {d:Array Int} (h:w.heap[g]?=some (.cells (d.map encI) 3 (0,0))) {k:Nat} (hk:k < d.size):w.cell? ⟨g,k,none⟩=some (.int .i64 d[k]!):=by
 rw [qac h,Array.getElem?_map,Array.getElem?_eq_getElem hk,getElem!_pos d k hk];rfl
set_option maxRecDepth 100000 in
set_option maxHeartbeats 1000000 in
theorem qvv (B b:Nat) (l:List UInt8) (g c:Nat) (d:Array Int) (w:World) (h:Wrt B b l w) (hg:w.heap[g]?=some (.cells (d.map encI) 3 (0,0))) (hd:LayN d) (hs:d.size≤10000) (hl:l.length≤900000000) (hB:B≤w.heap.size) (hne:g≠b) :
 Calls Tryz.prog 122 #[.pointer (some ⟨b,0,none⟩),.slice (some ⟨g,0,none⟩) d.size c] w fun e w'=>e=.returned (.tuple #[])∧Wrt B b (l ++ (nats d).flatMap numB) w'∧Below B w w'∧KeepT b w w':=by
 have H:=hI h
 have HG:=hI hg
 have HD:=hI hd
 clear h hg hd
 go_enter Tryz.func122,Tryz.ntmps122
 go_wp2
 go_loopw [13] (fun i wr=>∃ k:Nat,i=.int .i64 k∧k≤d.size∧Hid (Wrt B b (l ++ ((nats d).take k).flatMap numB) wr)∧Hid (Below B w wr)∧Hid (KeepT b w wr)) (fun i _=>d.size - (intOf i).toNat)
 case atStart=>exact ⟨0,rfl,Nat.zero_le _,hI (by simpa using H.out),hI (Below.refl B w),hI (KeepT.refl b w)⟩
 case round =>
  obtain ⟨k,rfl,hk,hX,hBe,hKe⟩:=hrel
  by_cases hlt:k < d.size
  ·have kz:(k:Int) < (d.size:Int):=by omega
   have hc:=qvu (hKe.out _ _ _ _ hne (by decide) HG.out) hlt
   have hx:=HD.out k hlt
   obtain ⟨n,hn⟩:∃ n:Nat,d[k]! = (n:Int):=⟨d[k]!.toNat,by omega⟩
   rw [hn] at hc
   have hn2:n≤9223372036854775807:=by omega
   have HN:Hid (d[k]!.toNat=n):=by show _=_;rw [hn];simp
   have h9:=qax n hn2
   have htl:=qvo d HD.out k
   have hsz:=hBe.out.size
   have HP:=hI (qrx n wr hn2)
   have HW:=hI (fun (piece:ByteArray) (w1:World) (hb1:Below wr.heap.size wr w1)=>qok B b _ piece ⟨(numB n).toArray⟩ w1 (hX.out.below hb1) (by rw [qaz,List.length_append];omega) (Nat.le_trans (Nat.le_trans hB hsz) hb1.size))
   clear hx hn htl hn2 h9
   go_wp2_with (first | (go_at_call 126;refine HP.out.mono ?_;rintro e w1 ⟨rfl,hb1⟩;have HB1:=hI hb1;clear hb1) | (go_at_call 142;refine (HW.out _ _ HB1.out).mono ?_;rintro e w' ⟨rfl,h2,hb2,hk2⟩;have H2:=hI h2;have HB2:=hI hb2;have HK2:=hI hk2;clear h2 hb2 hk2))
   go_roundw
   case rel =>
    refine ⟨k + 1,by go_num,by omega,?_,hI ((hBe.out.trans (HB1.out.mono (Nat.le_trans hB hsz))).trans HB2.out),hI ((hKe.out.trans (KeepT.of_below HB1.out)).trans HK2.out)⟩
    have:=H2.out
    rw [qrd d k hlt,HN.out]
    exact hI (by simpa using this)
   case measure=>simp [intOf];omega
  ·obtain rfl:k=d.size:=by omega
   rw [qvn] at hX
   have hlt':¬ (d.size:Int) < (d.size:Int):=by omega
   go_wp2
   go_end0
   exact ⟨rfl,hX.out,hBe.out,hKe.out⟩
set_option maxRecDepth 100000 in
theorem qrh (B b:Nat) (l:List UInt8) (w:World) (h:Wrt B b l w) (h0:l≠[]) :
 Calls Tryz.prog 125 #[.pointer (some ⟨b,0,none⟩)] w fun e w'=>e=.returned (.tuple #[.string ⟨l.toArray⟩,.nilIface])∧Below B w w':=by
 have hf:w.cell? ⟨b,2,none⟩=some .nilIface:=Bld.field h 0
 have HW:=hI (qwn 214 [.nilIface] B b l w h h0)
 clear h h0
 go_enter Tryz.func125,Tryz.ntmps125
 go_wp2_with (go_at_call 143;refine HW.out.mono ?_;rintro e w' ⟨rfl,hb2⟩;have HB2:=hI hb2;clear hb2)
 go_ret2
 exact ⟨rfl,HB2.out⟩
end Go.Proofs.YtjkecckndfcbjaaGreatDoor
