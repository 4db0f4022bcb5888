/- Texts that the law leans on. -/
import Derived.Test.YtnmojicfmcbgmaaGreatDoorQBoxG
import Derived.Test.YtnmojicfmcbgmaaGreatDoorQOwnK
import Derived.Test.YtnmojicfmcbgmaaGreatDoorQBase
import Derived.Test.YtnmojicfmcbgmaaGreatDoorQRead
namespace Go.Proofs.YtnmojicfmcbgmaaGreatDoor
open Go.RowKit Nb
def nats (d:Array Int):List Nat:=d.toList.map Int.toNat
def LayN (d:Array Int):Prop:=∀ i,i < d.size→0≤d[i]!∧d[i]!≤9223372036854775807
theorem qfr (d:Array Int):(nats d).length=d.size:=by simp [nats]
theorem qji (d:Array Int) (k:Nat) (h:k < d.size):(nats d).take (k + 1)=(nats d).take k ++ [d[k]!.toNat]:=by
 rw [List.take_succ_eq_append_getElem (by rw [qfr];exact h)]
 congr 2
 simp [nats,getElem!_pos d k h]
theorem qkr (d:Array Int):(nats d).take d.size=nats d:=List.take_of_length_le (by rw [qfr];exact Nat.le_refl _)
theorem LayN.nats {d:Array Int} (h:LayN d):∀ n ∈ nats d,n≤9223372036854775807:=by
 intro n hn
 simp only [Go.Proofs.YtnmojicfmcbgmaaGreatDoor.nats,List.mem_map,Array.mem_toList_iff] at hn
 obtain ⟨x,hx,rfl⟩:=hn
 obtain ⟨i,hi,rfl⟩:=Array.getElem_of_mem hx
 have:=h i hi
 rw [getElem!_pos d i hi] at this
 omega
theorem qdq (l:List Nat) (h:∀ n ∈ l,n≤9223372036854775807):(l.flatMap numB).length≤9 * l.length:=by
 induction l with
 | nil=>simp
 | cons n l ih =>
   have h1:=qbp n (h n (by simp))
   have h2:=ih (fun x hx=>h x (by simp [hx]))
   rw [List.flatMap_cons,List.length_append,List.length_cons];omega
theorem qks (d:Array Int) (h:LayN d) (k:Nat):(((nats d).take k).flatMap numB).length≤9 * k:=by
 have h1:=qdq ((nats d).take k) (fun n hn=>h.nats n (List.mem_of_mem_take hn))
 have h2:=List.length_take_le k (nats d)
 omega
theorem qwh (n:Nat) (B b:Nat) (l:List UInt8) (w:World) (hn:n≤9223372036854775807) (h:Bld 63 [] B b l w) (hl:l.length≤900000) (hB:B≤w.heap.size) :
 Calls Tryz.prog 172 #[.int .i64 n,.pointer (some ⟨b,0,none⟩)] w fun e w'=>e=.returned (.int .i64 0)∧Bld 63 [] B b (l ++ numB n) w'∧Below B w w':=by
 have HP:=hI (qse n w hn)
 have H:=hI h
 have h9:=qbp n hn
 clear h
 go_enter Tryz.func172,Tryz.ntmps172
 go_wp2_with fail
 refine HP.out.mono ?_
 rintro e w1 ⟨rfl,hb1⟩
 have HW:=hI (qgq 63 [] B b l ⟨(numB n).toArray⟩ w1 qxb (H.out.below hb1) (by rw [qdv];omega) (Nat.le_trans hB hb1.size))
 have HB1:=hI hb1
 clear hb1
 go_wp2_with fail
 refine HW.out.mono ?_
 rintro e w2 ⟨rfl,h2,hb2,_⟩
 have H2:=hI h2
 have HB2:=hI hb2
 clear h2 hb2
 go_wp2
 go_ret
 exact ⟨rfl,Or.inr (by have:=H2.out;simpa using this),(HB1.out.mono hB).trans HB2.out⟩
set_option maxRecDepth 100000 in
set_option maxHeartbeats 1000000 in
theorem Row_any (A:Option Addr) (c:Nat) (d:Array Int) (w:World) (h:RdI w.heap.size w A d) (hd:LayN d) (hs:d.size≤10000) :
 Calls Tryz.prog 122 #[.slice A d.size c] w fun e w'=>e=.returned (.tuple #[.string ⟨(rowB (nats d)).toArray⟩,.int .i64 0])∧Below w.heap.size w w':=by
 have HR:=hI h
 have HD:=hI hd
 have h9:=qbp d.size (by omega)
 have hB0:Bld 63 [] w.heap.size w.heap.size [] (w.alloc (.cells #[.pointer none,.slice none 0 0] 63)) :=
  Or.inl ⟨Nat.le_refl _,.slice none 0 0,by show (w.heap.push _)[w.heap.size]?=_;simp,World.ownsRow_nil _ _ _ _,by simp [Value.ownBlock]⟩
 have H1:=hI (qwh d.size w.heap.size w.heap.size [] (w.alloc (.cells #[.pointer none,.slice none 0 0] 63)) (by omega) hB0 (by simp) (by simp))
 clear h hd hB0
 go_enter Tryz.func122,Tryz.ntmps122
 go_wp2_with fail
 refine H1.out.mono ?_
 rintro e w1 ⟨rfl,h1,hb1⟩
 have HX1:=hI h1
 have HB1:=hI ((bel1 w (.cells #[.pointer none,.slice none 0 0] 63)).trans hb1)
 clear h1 hb1 H1
 go_wp2
 go_loopw [6,16] (fun e i wr=>∃ k:Nat,i=.int .i64 k∧e=.int .i64 0∧k≤d.size∧Hid (Bld 63 [] w.heap.size w.heap.size (numB d.size ++ ((nats d).take k).flatMap numB) wr)∧Hid (Below w.heap.size w wr)) (fun _ i _=>d.size - (intOf i).toNat)
 case atStart=>exact ⟨0,rfl,rfl,Nat.zero_le _,by have:=HX1.out;exact hI (by simpa using this),HB1.out⟩
 case round =>
  obtain ⟨k,rfl,rfl,hk,hX,hB⟩:=hrel
  by_cases hlt:k < d.size
  ·have kz:(k:Int) < (d.size:Int):=by omega
   obtain ⟨b,off,rfl,hbl,hc⟩:=(HR.out.below hB.out).at_ hlt
   have hx:=HD.out k hlt
   obtain ⟨n,hn⟩:∃ n:Nat,d[k]! = (n:Int):=⟨d[k]!.toNat,by omega⟩
   rw [hn] at hc
   have hn2:n≤9223372036854775807:=by omega
   have HN:Hid (d[k]!.toNat=n):=by show _=_;rw [hn];simp
   have htl:=qks d HD.out k
   have H3:=hI (qwh n w.heap.size w.heap.size _ wr hn2 hX.out (by rw [List.length_append];omega) hB.out.size)
   clear hx hn htl hn2
   go_wp2_with (go_at_call 172;refine H3.out.mono ?_;rintro e w' ⟨rfl,h4,hb4⟩;have HX4:=hI h4;have HB4:=hI hb4;clear h4 hb4)
   go_roundw
   case rel =>
    refine ⟨k + 1,by go_num,rfl,by omega,?_,hB.out.trans HB4.out⟩
    have:=HX4.out
    rw [qji d k hlt,HN.out]
    exact hI (by simpa using this)
   case measure=>simp [intOf];omega
  ·obtain rfl:k=d.size:=by omega
   rw [qkr] at hX
   have hlt':¬ (d.size:Int) < (d.size:Int):=by omega
   have H5:=hI (qmz 63 [] w.heap.size w.heap.size (rowB (nats d)) wr (by have:=hX.out;unfold rowB;rw [qfr];exact this) (by
    intro e
    have h1:(rowB (nats d)).length=0:=by rw [e];rfl
    have h2:=numB_pos (nats d).length
    unfold rowB at h1
    rw [List.length_append] at h1
    omega))
   go_wp2_with (go_at_call 70;refine H5.out.mono ?_;rintro e w' ⟨rfl,hb5⟩;have HB5:=hI hb5;clear hb5)
   go_ret2
   exact ⟨rfl,hB.out.trans HB5.out⟩
def RowR (d:Array Int) (w:World) (ov iv:Value) (wr:World):Prop:=∃ (k:Nat) (x:ByteArray),iv=.int .i64 (k:Int)∧ov=.string x∧k≤d.size∧x.data.toList=numB d.size ++ ((nats d).take k).flatMap numB∧Below w.heap.size w wr
set_option maxRecDepth 100000 in
set_option maxHeartbeats 1000000 in
theorem rRow_any (A:Option Addr) (c:Nat) (d:Array Int) (w:World) (h:RdI w.heap.size w A d) (hd:LayN d) (hs:d.size≤10000) :
 Calls Tryz.prog 75 #[.slice A d.size c] w fun e w'=>e=.returned (.tuple #[.string ⟨(rowB (nats d)).toArray⟩,.int .i64 0])∧Below w.heap.size w w':=by
 have HR:=hI h
 have HD:=hI hd
 have h9:=qbp d.size (by omega)
 have HP:=hI (qhc d.size w (by omega))
 clear h hd
 go_enter Tryz.func75,Tryz.ntmps75
 go_wp2_with fail
 refine HP.out.mono ?_
 rintro e w1 ⟨rfl,hb1⟩
 have HB1:=hI hb1
 clear hb1
 go_wp2
 go_loopw [4,6] (fun o i wr=>RowR d w o i wr) (fun _ i _=>d.size - (intOf i).toNat)
 case atStart=>exact ⟨0,_,rfl,rfl,Nat.zero_le _,by simp,HB1.out⟩
 case round =>
  obtain ⟨k,x,rfl,rfl,hk,hx,hB⟩:=hrel
  have HX:=hI hx
  have HB:=hI hB
  have htl:=qks d HD.out k
  have hxs:x.size≤9 + 9 * k:=by
   have e1:x.size=x.data.toList.length:=by simp
   rw [e1,hx,List.length_append];omega
  clear hx hB htl
  by_cases hlt:k < d.size
  ·have kz:(k:Int) < (d.size:Int):=by omega
   obtain ⟨b,off,rfl,hbl,hc⟩:=(HR.out.below HB.out).at_ hlt
   have hx:=HD.out k hlt
   obtain ⟨n,hn⟩:∃ n:Nat,d[k]! = (n:Int):=⟨d[k]!.toNat,by omega⟩
   rw [hn] at hc
   have hn2:n≤9223372036854775807:=by omega
   have HN:Hid (d[k]!.toNat=n):=by show _=_;rw [hn];simp
   have H3:=hI (qhc n wr hn2)
   have hl9:=qbp n hn2
   obtain ⟨y,hy⟩:∃ y:ByteArray,y=⟨(numB n).toArray⟩:=⟨_,rfl⟩
   have hys:y.size≤9:=by rw [hy,qdv];exact hl9
   rw [←hy] at H3
   obtain ⟨z,hz⟩:∃ z,x ++ y=z:=⟨_,rfl⟩
   have HZ:Hid (z.data.toList=x.data.toList ++ numB n):=by
    have e0:z.data.toList=x.data.toList ++ numB n:=by rw [←hz,hy];simp
    exact e0
   clear hx hn hn2 hy hl9
   go_wp2_with (go_at_call 73;refine H3.out.mono ?_;rintro e w' ⟨rfl,hb4⟩;have HB4:=hI hb4;clear hb4)
   go_roundw
   case rel =>
    refine ⟨k + 1,z,by go_num,rfl,by omega,?_,qac HB.out HB4.out⟩
    rw [HZ.out,HX.out,qji d k hlt,HN.out]
    simp
   case measure=>simp [intOf];omega
  ·have hlt':decide ((k:Int) < (d.size:Int))=false:=by simp;omega
   have HE:Hid (x=⟨(rowB (nats d)).toArray⟩):=by
    have e0:x=⟨(rowB (nats d)).toArray⟩:=by
     apply ByteArray.ext
     apply Array.ext'
     have e1:k=d.size:=by omega
     rw [HX.out,e1,qkr]
     unfold rowB
     rw [qfr]
    exact e0
   go_wp2
   go_ret2
   exact ⟨ret_si HE.out rfl,HB.out⟩
end Go.Proofs.YtnmojicfmcbgmaaGreatDoor
namespace Go.Proofs.YtnmojicfmcbgmaaGreatDoor
open Go.RowKit Nb
theorem qfg:(Tryz.prog.info? 3).map (fun i=>(i.zero,i.size,i.bytes))=some (some (.int .i64 0),1,8):=by kernel_rfl
theorem one_new (w:World) (u:Value) (e:TypeId):∀ (j:Nat) (v:Value),[u][j]?=some v→(w.alloc (.cells #[u] e)).cell? (Addr.add ⟨w.heap.size,0,none⟩ j)=some v:=by
 intro j v hj
 match j,hj with
 | 0,hj=>simp at hj;subst hj;simp [Addr.add]
theorem qwi (s:ByteArray) (p n k:Nat) (w:World) (hp:p≤s.size) (hs:s.size≤1000000) (h:getL (s.data.toList.drop p)=.ok n k) :
 Calls Tryz.prog 132 #[.string s,.int .i64 p] w fun e w'=>e=.returned (.tuple #[.int .i64 (n:Int),.int .i64 ((p + k:Nat):Int),.int .i64 0])∧w=w' :=
 (Get_any s p w hp hs).mono fun e w' ⟨he,hw⟩=>⟨by rw [he,h];rfl,hw⟩
theorem qwj (s:ByteArray) (p c:Nat) (w:World) (hp:p≤s.size) (hs:s.size≤1000000) (h:getL (s.data.toList.drop p)=.no c) :
 Calls Tryz.prog 132 #[.string s,.int .i64 p] w fun e w'=>e=.returned (.tuple #[.int .i64 0,.int .i64 0,.int .i64 (c:Int)])∧w=w' :=
 (Get_any s p w hp hs).mono fun e w' ⟨he,hw⟩=>⟨by rw [he,h];rfl,hw⟩
theorem qph (s:ByteArray) (p n k:Nat) (w:World) (hp:p≤s.size) (hs:s.size≤1000000) (h:getL (s.data.toList.drop p)=.ok n k) :
 Calls Tryz.prog 143 #[.string s,.int .i64 p] w fun e w'=>e=.returned (.tuple #[.int .i64 (n:Int),.int .i64 ((p + k:Nat):Int),.int .i64 0])∧w=w' :=
 (quj s p w hp hs).mono fun e w' ⟨he,hw⟩=>⟨by rw [he,h];rfl,hw⟩
theorem qpi (s:ByteArray) (p c:Nat) (w:World) (hp:p≤s.size) (hs:s.size≤1000000) (h:getL (s.data.toList.drop p)=.no c) :
 Calls Tryz.prog 143 #[.string s,.int .i64 p] w fun e w'=>e=.returned (.tuple #[.int .i64 0,.int .i64 0,.int .i64 (c:Int)])∧w=w' :=
 (quj s p w hp hs).mono fun e w' ⟨he,hw⟩=>⟨by rw [he,h];rfl,hw⟩
def ints (l:List Nat):Array Int:=(l.map Int.ofNat).toArray
theorem qao (l:List Nat):(ints l).size=l.length:=by simp [ints]
def UnR (p:Nat) (w:World) (r:UR) (e:Ending) (w':World):Prop:=Below w.heap.size w w'∧match r with
 | .no c=>e=.returned (.tuple #[.slice none 0 0,.int .i64 0,.int .i64 (c:Int)])
 | .ok l k=>∃ A cp,e=.returned (.tuple #[.slice A l.length cp,.int .i64 ((p + k:Nat):Int),.int .i64 0])∧RdI w'.heap.size w' A (ints l)∧((A=none→cp=0)∧l.length≤cp)∧(∀ a,A=some a→w.heap.size≤a.block)
def UnH (s:ByteArray) (p1 many:Nat) (w:World) (lv tv iv:Value) (wr:World):Prop:=∃ (i q:Nat) (ns:List Nat),iv=.int .i64 (i:Int)∧tv=.int .i64 (q:Int) ∧
 wr.ownsRow w.heap.size 3 1 lv ns.length ((ns.map Int.ofNat).map (Value.int .i64))∧q≤s.size∧i≤many∧ns.length=i∧p1≤q∧unL many (s.data.toList.drop p1)=(unL (many - i) (s.data.toList.drop q)).glue ns (q - p1)∧Below w.heap.size w wr
theorem UnR.of_no {p c:Nat} {w w':World} (hb:Below w.heap.size w w'):UnR p w (.no c) (.returned (.tuple #[.slice none 0 0,.int .i64 0,.int .i64 (c:Int)])) w':=⟨hb,rfl⟩
set_option maxRecDepth 100000 in
set_option maxHeartbeats 2000000 in
theorem Unrow_any (s:ByteArray) (p top:Nat) (w:World) (hp:p≤s.size) (hs:s.size≤1000000) (ht:top≤1000) :
 Calls Tryz.prog 138 #[.string s,.int .i64 p,.int .i64 top] w fun e w'=>UnR p w (qdt (s.data.toList.drop p) top) e w':=by
 cases hg:getL (s.data.toList.drop p) with
 | no c =>
   have HG:=hI (qwj s p c w hp hs hg)
   have HU:Hid (qdt (s.data.toList.drop p) top=.no c):=by show _=_;unfold qdt;rw [hg]
   have hc:=qeu hg
   have hc0:((c:Int) != 0)=true:=by simp;omega
   clear hg hc
   go_enter Tryz.func138,Tryz.ntmps138
   go_wp2_with (go_at_call 132;refine HG.out.mono ?_;rintro e w' ⟨rfl,rfl⟩)
   go_ret3
   rw [HU.out]
   exact UnR.of_no (Below.refl _ _)
 | ok n k =>
   have HG:=hI (qwi s p n k w hp hs hg)
   obtain ⟨-,-,hk,hn⟩:=qdi hg
   have hk2:p + k≤s.size:=by rw [List.length_drop] at hk;simp at hk;omega
   by_cases hbig:min top 1000 < n
   ·have HU:Hid (qdt (s.data.toList.drop p) top=.no 3):=by show _=_;unfold qdt;rw [hg];simp only;rw [if_pos hbig]
    have hb2:decide (min (top:Int) 1000 < (n:Int))=true:=by simp;omega
    clear hbig hg hk hn
    go_enter Tryz.func138,Tryz.ntmps138
    go_wp2_with (go_at_call 132;refine HG.out.mono ?_;rintro e w' ⟨rfl,rfl⟩)
    go_ret3
    rw [HU.out]
    exact UnR.of_no (Below.refl _ _)
   ·have HU:Hid (qdt (s.data.toList.drop p) top=(unL n (s.data.toList.drop (p + k))).glue [] k):=by show _=_;unfold qdt;rw [hg];simp only;rw [if_neg hbig,List.drop_drop]
    have hn1:n≤1000:=by omega
    have hb2:decide (min (top:Int) 1000 < (n:Int))=false:=by simp;omega
    obtain ⟨p1,hp1⟩:∃ p1,p + k=p1:=⟨_,rfl⟩
    rw [hp1] at HG HU hk2
    have HP1:=hI hp1
    obtain ⟨i0,hi0,hz0,hz1,hz2⟩:=info_parts qfg
    clear hg hk hn hbig hp1
    go_enter Tryz.func138,Tryz.ntmps138
    go_wp2_with (go_at_call 132;refine HG.out.mono ?_;rintro e w' ⟨rfl,rfl⟩)
    go_loopw [6,7,29] (fun lv tv iv wr=>UnH s p1 n w lv tv iv wr) (fun _ _ iv _=>n - (intOf iv).toNat)
    case atStart=>exact ⟨0,p1,[],rfl,rfl,World.ownsRow_nil _ _ _ _,hk2,Nat.zero_le _,rfl,Nat.le_refl _,by simp [UR.glue_nil],Below.refl _ _⟩
    case round =>
     obtain ⟨i,q,ns,rfl,rfl,hown,hq,hi,hns,hpq,hun,hb⟩:=hrel
     have HUN:=hI hun
     have HB:=hI hb
     have HNS:=hI hns
     have hbs:=hb.size
     clear hun hb hns
     by_cases hlt:i < n
     ·have iz:(i:Int) < (n:Int):=by omega
      obtain ⟨m,hm⟩:∃ m,n - i=m + 1:=⟨n - i - 1,by omega⟩
      cases hg2:getL (s.data.toList.drop q) with
      | no c =>
        have HG2:=hI (qwj s q c wr hq hs hg2)
        have HE:Hid (qdt (s.data.toList.drop p) top=.no c):=by
         show _=_
         rw [HU.out,HUN.out,hm]
         simp only [unL,hg2,UR.glue]
        have hc:=qeu hg2
        have hc0:((c:Int) != 0)=true:=by simp;omega
        clear hg2 hc hm
        go_wp2_with (go_at_call 132;refine HG2.out.mono ?_;rintro e w' ⟨rfl,rfl⟩)
        go_ret3
        rw [HE.out]
        exact UnR.of_no HB.out
      | ok x j =>
        have HG2:=hI (qwi s q x j wr hq hs hg2)
        obtain ⟨-,-,hj,hx⟩:=qdi hg2
        have hj2:q + j≤s.size:=by rw [List.length_drop] at hj;simp at hj;omega
        have HE:Hid (unL n (s.data.toList.drop p1)=(unL (n - (i + 1)) (s.data.toList.drop (q + j))).glue (ns ++ [x]) (q + j - p1)):=by
         show _=_
         rw [HUN.out,hm]
         have e1:n - (i + 1)=m:=by omega
         have e2:q - p1 + j=q + j - p1:=by omega
         simp only [unL,hg2,UR.glue_glue,List.drop_drop,e1,e2]
        obtain ⟨q2,hq2⟩:∃ q2,q + j=q2:=⟨_,rfl⟩
        rw [hq2] at HG2 HE hj2
        have hpq2:p1≤q2:=by omega
        have hnl:ns.length≤1000:=by have:=HNS.out;omega
        clear hg2 hj hx hm hq2
        go_wp2_with (first | (go_at_call 132;refine HG2.out.mono ?_;rintro e w' ⟨rfl,rfl⟩) | (at_builtin;refine wpList_append_own _ rfl _ _ 26 rfl w.heap.size 3 i0 (.int .i64 0) 1 8 Tryz.underlying26 hi0 hz0 hz1 hz2 rfl (by decide) _ _ _ rfl (hown.alloc _) ⟨wr.heap.size,0,none⟩ 1 1 [.int .i64 (x:Int)] rfl rfl (one_new wr _ _) (by simp [Value.oneCell']) (by unfold maxLen;omega) (by omega) (by simp;omega) ?_;intro v' w4 hown' hgrow _;have HO:=hI hown';have HB4:=hI ((qad HB.out _).grown hgrow (by simp;omega) (fun t htt=>(hown.lt t htt).1));clear hown' hgrow))
        go_roundw
        case rel =>
         refine ⟨i + 1,q2,ns ++ [x],by go_num,rfl,?_,hj2,by omega,by rw [List.length_append,HNS.out];rfl,hpq2,HE.out,HB4.out⟩
         have:=HO.out
         simpa using this
        case measure=>simp [intOf];omega
     ·have iz:decide ((i:Int) < (n:Int))=false:=by simp;omega
      have HE:Hid (qdt (s.data.toList.drop p) top=.ok ns (q - p1 + k)):=by
       show _=_
       have e1:n - i=0:=by omega
       rw [HU.out,HUN.out,e1]
       simp [unL,UR.glue]
       omega
      obtain ⟨A,cp,rfl,hrd,hnil,hlo⟩:=RdI.of_owns (xs:=ns.map Int.ofNat) (by simpa using hown)
      have HLO:=hI hlo
      have HRD:=hI hrd
      have HNI:Hid ((A=none→cp=0)∧ns.length≤cp):=⟨hnil.1,by have:=hnil.2;simpa using this⟩
      clear hrd hnil hown hlo
      go_wp2
      go_ret3
      rw [HE.out]
      refine ⟨HB.out,A,cp,?_,HRD.out,HNI.out,HLO.out⟩
      have e1:q=p + (q - p1 + k):=by have:=HP1.out;omega
      have e2:(ns.map Int.ofNat).length=ns.length:=by simp
      simp only [←e1]
      first | rfl | (rw [←e2];rfl)
set_option maxRecDepth 100000 in
set_option maxHeartbeats 2000000 in
theorem qze (s:ByteArray) (p top:Nat) (w:World) (hp:p≤s.size) (hs:s.size≤1000000) (ht:top≤1000) :
 Calls Tryz.prog 145 #[.string s,.int .i64 p,.int .i64 top] w fun e w'=>UnR p w (qdt (s.data.toList.drop p) top) e w':=by
 cases hg:getL (s.data.toList.drop p) with
 | no c =>
   have HG:=hI (qpi s p c w hp hs hg)
   have HU:Hid (qdt (s.data.toList.drop p) top=.no c):=by show _=_;unfold qdt;rw [hg]
   have hc:=qeu hg
   have hc0:((c:Int) != 0)=true:=by simp;omega
   clear hg hc
   go_enter Tryz.func145,Tryz.ntmps145
   go_wp2_with (go_at_call 143;refine HG.out.mono ?_;rintro e w' ⟨rfl,rfl⟩)
   go_ret3
   rw [HU.out]
   exact UnR.of_no (Below.refl _ _)
 | ok n k =>
   have HG:=hI (qph s p n k w hp hs hg)
   obtain ⟨-,-,hk,hn⟩:=qdi hg
   have hk2:p + k≤s.size:=by rw [List.length_drop] at hk;simp at hk;omega
   by_cases hbig:min top 1000 < n
   ·have HU:Hid (qdt (s.data.toList.drop p) top=.no 3):=by show _=_;unfold qdt;rw [hg];simp only;rw [if_pos hbig]
    clear hg hk hn
    by_cases hb3:1000 < n
    ·have hb2:decide ((1000:Int) < (n:Int))=true:=by simp;omega
     clear hbig hb3
     go_enter Tryz.func145,Tryz.ntmps145
     go_wp2_with (go_at_call 143;refine HG.out.mono ?_;rintro e w' ⟨rfl,rfl⟩)
     go_ret3
     rw [HU.out]
     exact UnR.of_no (Below.refl _ _)
    ·have hb2:decide ((1000:Int) < (n:Int))=false:=by simp;omega
     have hb4:decide (top < n)=true:=by simp;omega
     have hb5:decide ((0:Int) < (n:Int))=true:=by simp;omega
     have hb6:0 < n:=by omega
     clear hbig hb3
     go_enter Tryz.func145,Tryz.ntmps145
     go_wp2_with (go_at_call 143;refine HG.out.mono ?_;rintro e w' ⟨rfl,rfl⟩)
     go_ret3
     rw [HU.out]
     exact UnR.of_no (Below.refl _ _)
   ·have HU:Hid (qdt (s.data.toList.drop p) top=(unL n (s.data.toList.drop (p + k))).glue [] k):=by show _=_;unfold qdt;rw [hg];simp only;rw [if_neg hbig,List.drop_drop]
    have hn1:n≤1000:=by omega
    have hb2:decide ((1000:Int) < (n:Int))=false:=by simp;omega
    have hb4:decide (top < n)=false:=by simp;omega
    obtain ⟨p1,hp1⟩:∃ p1,p + k=p1:=⟨_,rfl⟩
    rw [hp1] at HG HU hk2
    have HP1:=hI hp1
    obtain ⟨i0,hi0,hz0,hz1,hz2⟩:=info_parts qfg
    clear hg hk hn hbig hp1
    go_enter Tryz.func145,Tryz.ntmps145
    go_wp2_with (go_at_call 143;refine HG.out.mono ?_;rintro e w' ⟨rfl,rfl⟩)
    go_loopw [10,12,13] (fun tv lv iv wr=>UnH s p1 n w lv tv iv wr) (fun _ _ iv _=>n - (intOf iv).toNat)
    case atStart=>exact ⟨0,p1,[],rfl,rfl,World.ownsRow_nil _ _ _ _,hk2,Nat.zero_le _,rfl,Nat.le_refl _,by simp [UR.glue_nil],Below.refl _ _⟩
    case round =>
     obtain ⟨i,q,ns,rfl,rfl,hown,hq,hi,hns,hpq,hun,hb⟩:=hrel
     have HUN:=hI hun
     have HB:=hI hb
     have HNS:=hI hns
     have hbs:=hb.size
     clear hun hb hns
     by_cases hlt:i < n
     ·have iz:(i:Int) < (n:Int):=by omega
      obtain ⟨m,hm⟩:∃ m,n - i=m + 1:=⟨n - i - 1,by omega⟩
      cases hg2:getL (s.data.toList.drop q) with
      | no c =>
        have HG2:=hI (qpi s q c wr hq hs hg2)
        have HE:Hid (qdt (s.data.toList.drop p) top=.no c):=by
         show _=_
         rw [HU.out,HUN.out,hm]
         simp only [unL,hg2,UR.glue]
        have hc:=qeu hg2
        have hc0:((c:Int) != 0)=true:=by simp;omega
        clear hg2 hc hm
        go_wp2_with (go_at_call 143;refine HG2.out.mono ?_;rintro e w' ⟨rfl,rfl⟩)
        go_ret3
        rw [HE.out]
        exact UnR.of_no HB.out
      | ok x j =>
        have HG2:=hI (qph s q x j wr hq hs hg2)
        obtain ⟨-,-,hj,hx⟩:=qdi hg2
        have hj2:q + j≤s.size:=by rw [List.length_drop] at hj;simp at hj;omega
        have HE:Hid (unL n (s.data.toList.drop p1)=(unL (n - (i + 1)) (s.data.toList.drop (q + j))).glue (ns ++ [x]) (q + j - p1)):=by
         show _=_
         rw [HUN.out,hm]
         have e1:n - (i + 1)=m:=by omega
         have e2:q - p1 + j=q + j - p1:=by omega
         simp only [unL,hg2,UR.glue_glue,List.drop_drop,e1,e2]
        obtain ⟨q2,hq2⟩:∃ q2,q + j=q2:=⟨_,rfl⟩
        rw [hq2] at HG2 HE hj2
        have hpq2:p1≤q2:=by omega
        have hnl:ns.length≤1000:=by have:=HNS.out;omega
        clear hg2 hj hx hm hq2
        go_wp2_with (first | (go_at_call 143;refine HG2.out.mono ?_;rintro e w' ⟨rfl,rfl⟩) | (at_builtin;refine wpList_append_own _ rfl _ _ 26 rfl w.heap.size 3 i0 (.int .i64 0) 1 8 Tryz.underlying26 hi0 hz0 hz1 hz2 rfl (by decide) _ _ _ rfl (hown.alloc _) ⟨wr.heap.size,0,none⟩ 1 1 [.int .i64 (x:Int)] rfl rfl (one_new wr _ _) (by simp [Value.oneCell']) (by unfold maxLen;omega) (by omega) (by simp;omega) ?_;intro v' w4 hown' hgrow _;have HO:=hI hown';have HB4:=hI ((qad HB.out _).grown hgrow (by simp;omega) (fun t htt=>(hown.lt t htt).1));clear hown' hgrow))
        go_roundw
        case rel =>
         refine ⟨i + 1,q2,ns ++ [x],by go_num,rfl,?_,hj2,by omega,by rw [List.length_append,HNS.out];rfl,hpq2,HE.out,HB4.out⟩
         have:=HO.out
         simpa using this
        case measure=>simp [intOf];omega
     ·have iz:decide ((i:Int) < (n:Int))=false:=by simp;omega
      have HE:Hid (qdt (s.data.toList.drop p) top=.ok ns (q - p1 + k)):=by
       show _=_
       have e1:n - i=0:=by omega
       rw [HU.out,HUN.out,e1]
       simp [unL,UR.glue]
       omega
      obtain ⟨A,cp,rfl,hrd,hnil,hlo⟩:=RdI.of_owns (xs:=ns.map Int.ofNat) (by simpa using hown)
      have HLO:=hI hlo
      have HRD:=hI hrd
      have HNI:Hid ((A=none→cp=0)∧ns.length≤cp):=⟨hnil.1,by have:=hnil.2;simpa using this⟩
      clear hrd hnil hown hlo
      go_wp2
      go_ret3
      rw [HE.out]
      refine ⟨HB.out,A,cp,?_,HRD.out,HNI.out,HLO.out⟩
      have e1:q=p + (q - p1 + k):=by have:=HP1.out;omega
      have e2:(ns.map Int.ofNat).length=ns.length:=by simp
      simp only [←e1]
      first | rfl | (rw [←e2];rfl)
end Go.Proofs.YtnmojicfmcbgmaaGreatDoor
namespace Go.Proofs.YtnmojicfmcbgmaaGreatDoor
open Go.RowKit Go.Sort Nb
theorem Nb.manyR_add {α:Type} (f:IS→IS×α):∀ (k j:Nat) (st:IS),qan f (k + j) st=((qan f j (qan f k st).1).1,(qan f k st).2 ++ (qan f j (qan f k st).1).2)
 | 0,j,st=>by rw [Nat.zero_add];rfl
 | k + 1,j,st=>by
   rw [Nat.succ_add,qan,manyR_add f k j (f st).1]
   rfl
theorem Nb.manyR_stop {α:Type} {f:IS→IS×α} (h:∀ st,st.r.e≠0→(f st).1=st) {k n:Nat} {st:IS} (hk:k≤n) (he:(qan f k st).1.r.e≠0):(qan f n st).1=(qan f k st).1:=by
 obtain ⟨j,rfl⟩:=Nat.exists_eq_add_of_le hk
 rw [manyR_add]
 exact qih h j _ he
theorem Nb.grp_snoc (n:Nat):∀ (k:Nat) (l:List Nat),grp n (k + 1) l=grp n k l ++ [(l.drop (k * n)).take n]
 | 0,l=>by simp [grp]
 | k + 1,l=>by
   rw [grp,grp_snoc n k (l.drop n),List.drop_drop,show n + k * n=(k + 1) * n by rw [Nat.succ_mul,Nat.add_comm]]
   rfl
def toP (g:List Nat):Int×Int:=((g[0]! : Nat),(g[1]! : Nat))
def qai (gs:GS):Array (Int×Int):=(gs.map toP).toArray
def toK (g:List Nat):AK:=⟨(g[0]! : Nat),(g[1]! : Nat),(g[2]! : Nat),(g[3]! : Nat),(g[4]! : Nat),(g[5]! : Nat)⟩
def qbv (gs:GS):Array AK:=(gs.map toK).toArray
theorem natP_to {g:List Nat} (h:g.length=2):natP (toP g)=g:=by
 match g,h with
 | [a,b],_=>rfl
theorem ackN_to {g:List Nat} (h:g.length=6):ackN (toK g)=g:=by
 match g,h with
 | [a,b,c,d,e,f],_=>rfl
theorem qmh {α:Type} {f:α→α}:∀ {l:List α},(∀ x ∈ l,f x=x)→l.map f=l
 | [],_=>rfl
 | x :: l,h=>by rw [List.map_cons,h x (by simp),qmh fun y hy=>h y (by simp [hy])]
theorem qfs {gs:GS} (h:∀ g ∈ gs,g.length=2):qbg (qai gs)=gs∧nnP (qai gs):=by
 refine ⟨?_,fun x hx=>?_⟩
 ·show (gs.map toP).map natP=gs
  rw [List.map_map]
  exact qmh fun g hg=>natP_to (h g hg)
 ·obtain ⟨g,_,rfl⟩:=List.mem_map.1 (show x ∈ gs.map toP from hx)
  exact ⟨Int.natCast_nonneg _,Int.natCast_nonneg _⟩
theorem acks_of {gs:GS} (h:∀ g ∈ gs,g.length=6):(qbv gs).toList.map ackN=gs∧∀ a ∈ (qbv gs).toList,nnA a:=by
 refine ⟨?_,fun x hx=>?_⟩
 ·show (gs.map toK).map ackN=gs
  rw [List.map_map]
  exact qmh fun g hg=>ackN_to (h g hg)
 ·obtain ⟨g,_,rfl⟩:=List.mem_map.1 (show x ∈ gs.map toK from hx)
  exact ⟨Int.natCast_nonneg _,Int.natCast_nonneg _,Int.natCast_nonneg _,Int.natCast_nonneg _,Int.natCast_nonneg _,Int.natCast_nonneg _⟩
theorem grp_one:∀ (l:List Nat),grp 1 l.length l=l.map fun x=>[x]
 | []=>rfl
 | x :: l=>by rw [List.length_cons,grp,List.map_cons,←grp_one l];rfl
theorem qwk (l:List Nat):intM (ints l)=grp 1 (l.length / 1) l∧nnI (ints l):=by
 refine ⟨?_,fun x hx=>?_⟩
 ·rw [Nat.div_one,grp_one]
  show ((l.map Int.ofNat).map fun n=>[n.toNat])=_
  rw [List.map_map]
  rfl
 ·obtain ⟨g,_,rfl⟩:=List.mem_map.1 (show x ∈ l.map Int.ofNat from hx)
  exact Int.natCast_nonneg _
end Go.Proofs.YtnmojicfmcbgmaaGreatDoor
namespace Go.Proofs.YtnmojicfmcbgmaaGreatDoor
open Go.RowKit Nb
def Wrt (B b:Nat) (l:List UInt8) (w:World):Prop:=Bld 65 [.nilIface] B b l w
theorem liesB_wrt:LiesB 65 3:=⟨by kernel_rfl,by decide⟩
theorem Wrt.below {B b:Nat} {l:List UInt8} {w w':World} (h:Wrt B b l w) (hb:Below w.heap.size w w'):Wrt B b l w':=Bld.below h hb
theorem Wrt.new (w:World):Wrt w.heap.size w.heap.size [] (w.alloc (.cells #[.pointer none,.slice none 0 0,.nilIface] 65)) :=
 Or.inl ⟨Nat.le_refl _,.slice none 0 0,by show (w.heap.push _)[w.heap.size]?=_;simp,World.ownsRow_nil _ _ _ _,by simp [Value.ownBlock]⟩
set_option maxRecDepth 100000 in
theorem qto (B b:Nat) (l:List UInt8) (piece s:ByteArray) (w:World) (h:Wrt B b l w) (hl:l.length + s.size≤1000000000) (hB:B≤w.heap.size) :
 Calls Tryz.prog 62 #[.pointer (some ⟨b,0,none⟩),.string piece,.string s,.int .i64 0] w fun e w'=>e=.returned (.tuple #[])∧Wrt B b (l ++ s.data.toList) w'∧Below B w w'∧KeepT b w w':=by
 have hf:w.cell? ⟨b,2,none⟩=some .nilIface:=Bld.field h 0
 have HW:=hI (qgq 65 [.nilIface] B b l s w liesB_wrt h hl hB)
 clear h
 go_enter Tryz.func62,Tryz.ntmps62
 go_wp2_with (go_at_call 120;refine HW.out.mono ?_;rintro e w' ⟨rfl,h2,hb2,hk2⟩;have H2:=hI h2;have HB2:=hI hb2;have HK2:=hI hk2;clear h2 hb2 hk2)
 go_end0
 exact ⟨rfl,Or.inr H2.out,HB2.out,HK2.out⟩
set_option maxRecDepth 100000 in
theorem WText_any (B b:Nat) (l:List UInt8) (s:ByteArray) (w:World) (h:Wrt B b l w) (hl:l.length + s.size≤900000000) (hB:B≤w.heap.size) :
 Calls Tryz.prog 64 #[.pointer (some ⟨b,0,none⟩),.string s] w fun e w'=>e=.returned (.tuple #[])∧Wrt B b (l ++ qea s.data.toList) w'∧Below B w w'∧KeepT b w w':=by
 have h9:=qbp s.size (by omega)
 have HP:=hI (qse s.size w (by omega))
 have H:=hI h
 obtain ⟨y,hy⟩:∃ y:ByteArray,y=⟨(numB s.size).toArray⟩:=⟨_,rfl⟩
 have hys:y.size≤9:=by rw [hy,qdv];exact h9
 rw [←hy] at HP
 obtain ⟨z,hz⟩:∃ z,y ++ s=z:=⟨_,rfl⟩
 have hzs:z.size≤9 + s.size:=by rw [←hz,ByteArray.size_append];omega
 have HZ:Hid (z.data.toList=qea s.data.toList):=by
  have e0:z.data.toList=qea s.data.toList:=by rw [←hz,hy];simp [qea]
  exact e0
 clear h hy h9
 go_enter Tryz.func64,Tryz.ntmps64
 go_wp2_with fail
 refine HP.out.mono ?_
 rintro e w1 ⟨rfl,hb1⟩
 have HW:=hI (fun piece=>qto B b l piece z w1 (H.out.below hb1) (by omega) (Nat.le_trans hB hb1.size))
 have HB1:=hI hb1
 clear hb1
 go_wp2_with (go_at_call 62;refine (HW.out _).mono ?_;rintro e w' ⟨rfl,h2,hb2,hk2⟩;have H2:=hI h2;have HB2:=hI hb2;have HK2:=hI hk2;clear h2 hb2 hk2)
 go_end0
 exact ⟨rfl,by rw [←HZ.out];exact H2.out,(HB1.out.mono hB).trans HB2.out,(KeepT.of_below HB1.out).trans HK2.out⟩
set_option maxRecDepth 100000 in
theorem qkt (B b:Nat) (l:List UInt8) (A:Option Addr) (c:Nat) (d:Array Int) (w:World) (h:Wrt B b l w) (hr:RdI w.heap.size w A d) (hd:LayN d) (hs:d.size≤10000) (hl:l.length≤900000000) (hB:B≤w.heap.size) :
 Calls Tryz.prog 67 #[.pointer (some ⟨b,0,none⟩),.slice A d.size c] w fun e w'=>e=.returned (.tuple #[])∧Wrt B b (l ++ rowB (nats d)) w'∧Below B w w'∧KeepT b w w':=by
 have h9:=qbp d.size (by omega)
 have hfl:=qdq (nats d) hd.nats
 rw [qfr] at hfl
 have HP:=hI (Row_any A c d w hr hd hs)
 have H:=hI h
 obtain ⟨y,hy⟩:∃ y:ByteArray,y=⟨(rowB (nats d)).toArray⟩:=⟨_,rfl⟩
 have hys:y.size≤100000:=by rw [hy,qdv];unfold rowB;rw [List.length_append,qfr];omega
 rw [←hy] at HP
 have HY:Hid (y.data.toList=rowB (nats d)):=by
  have e0:y.data.toList=rowB (nats d):=by rw [hy]
  exact e0
 clear h hy h9 hfl hr hd
 go_enter Tryz.func67,Tryz.ntmps67
 go_wp2_with fail
 refine HP.out.mono ?_
 rintro e w1 ⟨rfl,hb1⟩
 have HW:=hI (fun piece=>qto B b l piece y w1 (H.out.below hb1) (by omega) (Nat.le_trans hB hb1.size))
 have HB1:=hI hb1
 clear hb1
 go_wp2_with (go_at_call 62;refine (HW.out _).mono ?_;rintro e w' ⟨rfl,h2,hb2,hk2⟩;have H2:=hI h2;have HB2:=hI hb2;have HK2:=hI hk2;clear h2 hb2 hk2)
 go_end0
 exact ⟨rfl,by rw [←HY.out];exact H2.out,(HB1.out.mono hB).trans HB2.out,(KeepT.of_below HB1.out).trans HK2.out⟩
theorem qwl {w:World} {g:Nat} {d:Array Int} (h:w.heap[g]?=some (.cells (d.map encI) 3 (0,0))) {k:Nat} (hk:k < d.size):w.cell? ⟨g,k,none⟩=some (.int .i64 d[k]!):=by
 rw [qab h,Array.getElem?_map,Array.getElem?_eq_getElem hk,getElem!_pos d k hk];rfl
set_option maxRecDepth 100000 in
set_option maxHeartbeats 1000000 in
theorem WNum_any (B b:Nat) (l:List UInt8) (g c:Nat) (d:Array Int) (w:World) (h:Wrt B b l w) (hg:w.heap[g]?=some (.cells (d.map encI) 3 (0,0))) (hd:LayN d) (hs:d.size≤10000) (hl:l.length≤900000000) (hB:B≤w.heap.size) (hne:g≠b) :
 Calls Tryz.prog 22 #[.pointer (some ⟨b,0,none⟩),.slice (some ⟨g,0,none⟩) d.size c] w fun e w'=>e=.returned (.tuple #[])∧Wrt B b (l ++ (nats d).flatMap numB) w'∧Below B w w'∧KeepT b w w':=by
 have H:=hI h
 have HG:=hI hg
 have HD:=hI hd
 clear h hg hd
 go_enter Tryz.func22,Tryz.ntmps22
 go_wp2
 go_loopw [13] (fun i wr=>∃ k:Nat,i=.int .i64 k∧k≤d.size∧Hid (Wrt B b (l ++ ((nats d).take k).flatMap numB) wr)∧Hid (Below B w wr)∧Hid (KeepT b w wr)) (fun i _=>d.size - (intOf i).toNat)
 case atStart=>exact ⟨0,rfl,Nat.zero_le _,hI (by simpa using H.out),hI (Below.refl B w),hI (KeepT.refl b w)⟩
 case round =>
  obtain ⟨k,rfl,hk,hX,hBe,hKe⟩:=hrel
  by_cases hlt:k < d.size
  ·have kz:(k:Int) < (d.size:Int):=by omega
   have hc:=qwl (hKe.out _ _ _ _ hne (by decide) HG.out) hlt
   have hx:=HD.out k hlt
   obtain ⟨n,hn⟩:∃ n:Nat,d[k]! = (n:Int):=⟨d[k]!.toNat,by omega⟩
   rw [hn] at hc
   have hn2:n≤9223372036854775807:=by omega
   have HN:Hid (d[k]!.toNat=n):=by show _=_;rw [hn];simp
   have h9:=qbp n hn2
   have htl:=qks d HD.out k
   have hsz:=hBe.out.size
   have HP:=hI (qse n wr hn2)
   have HW:=hI (fun (piece:ByteArray) (w1:World) (hb1:Below wr.heap.size wr w1)=>qto B b _ piece ⟨(numB n).toArray⟩ w1 (hX.out.below hb1) (by rw [qdv,List.length_append];omega) (Nat.le_trans (Nat.le_trans hB hsz) hb1.size))
   clear hx hn htl hn2 h9
   go_wp2_with (first | (go_at_call 63;refine HP.out.mono ?_;rintro e w1 ⟨rfl,hb1⟩;have HB1:=hI hb1;clear hb1) | (go_at_call 62;refine (HW.out _ _ HB1.out).mono ?_;rintro e w' ⟨rfl,h2,hb2,hk2⟩;have H2:=hI h2;have HB2:=hI hb2;have HK2:=hI hk2;clear h2 hb2 hk2))
   go_roundw
   case rel =>
    refine ⟨k + 1,by go_num,by omega,?_,hI ((hBe.out.trans (HB1.out.mono (Nat.le_trans hB hsz))).trans HB2.out),hI ((hKe.out.trans (KeepT.of_below HB1.out)).trans HK2.out)⟩
    have:=H2.out
    rw [qji d k hlt,HN.out]
    exact hI (by simpa using this)
   case measure=>simp [intOf];omega
  ·obtain rfl:k=d.size:=by omega
   rw [qkr] at hX
   have hlt':¬ (d.size:Int) < (d.size:Int):=by omega
   go_wp2
   go_end0
   exact ⟨rfl,hX.out,hBe.out,hKe.out⟩
set_option maxRecDepth 100000 in
theorem WDone_any (B b:Nat) (l:List UInt8) (w:World) (h:Wrt B b l w) (h0:l≠[]) :
 Calls Tryz.prog 28 #[.pointer (some ⟨b,0,none⟩)] w fun e w'=>e=.returned (.tuple #[.string ⟨l.toArray⟩,.nilIface])∧Below B w w':=by
 have hf:w.cell? ⟨b,2,none⟩=some .nilIface:=Bld.field h 0
 have HW:=hI (qmz 65 [.nilIface] B b l w h h0)
 clear h h0
 go_enter Tryz.func28,Tryz.ntmps28
 go_wp2_with (go_at_call 70;refine HW.out.mono ?_;rintro e w' ⟨rfl,hb2⟩;have HB2:=hI hb2;clear hb2)
 go_ret2
 exact ⟨rfl,HB2.out⟩
end Go.Proofs.YtnmojicfmcbgmaaGreatDoor
