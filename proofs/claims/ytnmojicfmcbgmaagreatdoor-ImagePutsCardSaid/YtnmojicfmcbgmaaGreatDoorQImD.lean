/- Texts that the law leans on. -/
import Derived.Test.YtnmojicfmcbgmaaGreatDoorQIoH
import Derived.Test.YtnmojicfmcbgmaaGreatDoorQImT
import Derived.Test.YtnmojicfmcbgmaaGreatDoorQErrA
import Derived.Test.YtnmojicfmcbgmaaGreatDoorQRowA
import Derived.Test.YtnmojicfmcbgmaaGreatDoorQErrD
import Derived.Test.YtnmojicfmcbgmaaGreatDoorQDrw
namespace Go.Proofs.YtnmojicfmcbgmaaGreatDoor
open Go.RowKit Go.Sort Go.Lib Nb
set_option maxRecDepth 100000
def itN (x:IT):List Int:=[x.id,x.free,x.held,x.gone]
def seN (x:SS):List Int:=[x.cl,x.seq]
def itL (x:IT):List UInt8:=((itN x).map Int.toNat).flatMap numB
def seL (x:SS):List UInt8:=((seN x).map Int.toNat).flatMap numB ++ qea x.rep.data.toList
structure StoB (it:Array IT) (ss:Array SS):Prop where
 i:it.size≤20
 s:ss.size≤20
 ii:∀ x ∈ it.toList,∀ y ∈ itN x,may6 y
 si:∀ x ∈ ss.toList,(∀ y ∈ seN x,may6 y)∧x.rep.size≤300
theorem qfa {l:List Int} (h:∀ x ∈ l,may6 x):((l.map Int.toNat).flatMap numB).length≤9 * l.length:=by
 have:=qdq (l.map Int.toNat) (fun n hn=>by
  obtain ⟨y,hy,rfl⟩:=List.mem_map.1 hn
  have:=h y hy
  unfold may6 at this
  omega)
 simpa using this
theorem text_len {p:ByteArray} (h:p.size≤300):(qea p.data.toList).length≤400:=by
 unfold qea
 have hp:p.data.toList.length=p.size:=by simp
 have:=qbp p.data.toList.length (by rw [hp];omega)
 rw [List.length_append]
 omega
theorem itL_len {x:IT} (h:∀ y ∈ itN x,may6 y):(itL x).length≤100:=by
 have:=qfa h
 have e:(itN x).length=4:=rfl
 unfold itL
 omega
theorem seL_len {x:SS} (h:(∀ y ∈ seN x,may6 y)∧x.rep.size≤300):(seL x).length≤500:=by
 have:=qfa h.1
 have e:(seN x).length=2:=rfl
 have:=text_len h.2
 unfold seL
 rw [List.length_append]
 omega
def stoL (it:Array IT) (ss:Array SS):List UInt8:=(numB it.size ++ it.toList.flatMap itL) ++ (numB ss.size ++ ss.toList.flatMap seL)
set_option maxHeartbeats 16000000 in
theorem qsi {w0:World} {b:Nat} {l:List UInt8} (x1:RW IT) (x2:RW SS) (w:World) (h:WW w0 b l w) (h1:RdW qdc 4 w0 x1) (h2:RdW qcw 3 w0 x2) (hm:StoB x1.z x2.z) (hl:l.length≤50000000) :
 Calls Tryz.prog 27 #[.pointer (some ⟨b,0,none⟩),.agg #[.slice x1.A x1.z.size x1.c,.slice x2.A x2.z.size x2.c]] w fun e w'=>e=.returned (.tuple #[])∧WW w0 b (l ++ stoL x1.z x2.z) w'∧Below w0.heap.size w w'∧KeepT b w w':=by
 obtain ⟨A1,c1,z1⟩:=x1
 obtain ⟨A2,c2,z2⟩:=x2
 simp only at hm ⊢
 have HR1:Hid (RdK qdc 4 w0.heap.size w0 A1 z1):=h1.rd
 have HR2:Hid (RdK qcw 3 w0.heap.size w0 A2 z2):=h2.rd
 have HM:=hI hm
 have hbl:=h.lt
 have hin:=hm.i
 have hsn:=hm.s
 have HG:Hid ((w.alloc (.cells #[.slice A1 z1.size c1,.slice A2 z2.size c2] 33)).heap[w.heap.size]?=some (.cells #[.slice A1 z1.size c1,.slice A2 z2.size c2] 33 (0,0))):=heap_alloc_new w _
 have HW0:=hI (h.step (bel1 w (.cells #[.slice A1 z1.size c1,.slice A2 z2.size c2] 33)))
 have HB0:=hI ((bel1 w (.cells #[.slice A1 z1.size c1,.slice A2 z2.size c2] 33)).mono h.b.size)
 have HK0:=hI (KeepT.of_below (b:=b) (bel1 w (.cells #[.slice A1 z1.size c1,.slice A2 z2.size c2] 33)))
 clear h h1 h2 hm
 go_enter Tryz.func27,Tryz.ntmps27
 obtain ⟨w1,hw1⟩:∃ W,W=w.alloc (.cells #[.slice A1 z1.size c1,.slice A2 z2.size c2] 33):=⟨_,rfl⟩
 rw [←hw1] at HG HW0 HB0 HK0
 have q0:=(cell_of_row w1 w.heap.size 0 _ _ (0,0) HG.out).trans rfl
 have hlt1:w1.heap.size=w.heap.size + 1:=by rw [hw1];simp
 rw [hw1] at q0
 have HN:=hI (wnum (w:=w1.alloc (.cells #[.int .i64 z1.size] 3)) (g:=w1.heap.size) (c:=1) [(z1.size:Int)] (HW0.out.step (bel1 w1 _)) (heap_alloc_new w1 _) (by intro x hx;simp only [List.mem_cons,List.not_mem_nil,or_false] at hx;subst hx;unfold may6;omega) (by simp) (by omega) (by omega))
 simp only [List.length_cons,List.length_nil,Nat.zero_add,List.map_cons,List.map_nil,Int.toNat_natCast,List.flatMap_cons,List.flatMap_nil,List.append_nil] at HN
 rw [hlt1] at HN
 go_wp2_with fail
 rw [←hw1]
 refine HN.out.mono ?_
 rintro _ w2 ⟨rfl,hW2,hb2,hk2⟩
 have HG2:=hI (qew ((KeepT.of_below (b:=b) (bel1 w1 (.cells #[.int .i64 z1.size] 3))).trans hk2) (by omega) (by decide) HG.out)
 have HBA:=hI (HB0.out.trans (((bel1 w1 (.cells #[.int .i64 z1.size] 3)).mono HW0.out.b.size).trans hb2))
 have HKA:=hI (HK0.out.trans ((KeepT.of_below (b:=b) (bel1 w1 (.cells #[.int .i64 z1.size] 3))).trans hk2))
 have HWr:=hI hW2
 have hnb:=qbp z1.size (by omega)
 obtain ⟨l1,hl1⟩:∃ y,l ++ numB z1.size=y:=⟨_,rfl⟩
 have hlr1:l1.length≤50000010:=by rw [←hl1,List.length_append];omega
 rw [hl1] at HWr
 have HL1:=hI hl1
 have q0:=(cell_of_row w2 w.heap.size 0 _ _ (0,0) HG2.out).trans rfl
 clear hW2 hb2 hk2 HN hl1 hnb hw1 hlt1
 go_wp2
 clear q0
 go_loopw [17] (fun i wq=>∃ k:Nat,i=.int .i64 k∧k≤z1.size∧Hid (WW w0 b (l1 ++ (z1.toList.take k).flatMap itL) wq)∧Hid (Below w0.heap.size w2 wq)∧Hid (KeepT b w2 wq)) (fun i _=>z1.size - (intOf i).toNat)
 case atStart=>exact ⟨0,rfl,Nat.zero_le _,hI (by simpa using HWr.out),hI (Below.refl _ _),hI (KeepT.refl _ _)⟩
 case round =>
  obtain ⟨k,rfl,hk,HWq,HBq,HKq⟩:=hrel
  have hbd:=qdx (z:=z1) (f:=itL) (C:=100) (fun x hx=>itL_len (HM.out.ii x hx)) k hk
  have hkc:k * 100≤20 * 100:=Nat.mul_le_mul_right _ (by omega)
  have hlr2:(l1 ++ (z1.toList.take k).flatMap itL).length≤60000000:=by
   rw [List.length_append];omega
  by_cases hlt:k < z1.size
  ·have kz:(k:Int) < (z1.size:Int):=by omega
   have HS:Hid ((z1.toList.take (k + 1)).flatMap itL=(z1.toList.take k).flatMap itL ++ itL z1[k]!):=qbi _ _ hlt
   obtain ⟨b2,off,rfl,hb2,ff⟩:=(HR1.out.below HWq.out.b).mono HWq.out.b.size |>.at_ (i:=k) hlt
   have HE:=hI (HM.out.ii z1[k]! (by rw [getElem!_pos z1 k hlt];simp))
   obtain ⟨x,hx⟩:∃ x,z1[k]! = x:=⟨_,rfl⟩
   rw [hx] at ff HS HE
   have e0:=ff 0 (by omega)
   have e1:=ff 1 (by omega)
   have e2:=ff 2 (by omega)
   have e3:=ff 3 (by omega)
   clear hx ff hbd hkc
   simp only [Nat.add_zero,qdc,List.getElem!_cons_zero,List.getElem!_cons_succ] at e0 e1 e2 e3
   have hbr:=HWq.out.lt
   obtain ⟨l2,hl2⟩:∃ y,l1 ++ (z1.toList.take k).flatMap itL=y:=⟨_,rfl⟩
   rw [hl2] at HWq hlr2
   have HL2:=hI hl2
   clear hl2
   have HBX:Hid (((wr.alloc (.cells #[.int .i64 x.id,.int .i64 x.free,.int .i64 x.held,.int .i64 x.gone] 84)).alloc (.cells #[.int .i64 x.id,.int .i64 x.free,.int .i64 x.held,.int .i64 x.gone] 3)).heap[wr.heap.size]?=some (.cells #[.int .i64 x.id,.int .i64 x.free,.int .i64 x.held,.int .i64 x.gone] 84 (0,0))):=qes (heap_alloc_new wr _)
   have HBb:Hid (Below wr.heap.size wr ((wr.alloc (.cells #[.int .i64 x.id,.int .i64 x.free,.int .i64 x.held,.int .i64 x.gone] 84)).alloc (.cells #[.int .i64 x.id,.int .i64 x.free,.int .i64 x.held,.int .i64 x.gone] 3))):=qad (bel1 wr _) _
   have HN:=hI (wnum (w:=(wr.alloc (.cells #[.int .i64 x.id,.int .i64 x.free,.int .i64 x.held,.int .i64 x.gone] 84)).alloc (.cells #[.int .i64 x.id,.int .i64 x.free,.int .i64 x.held,.int .i64 x.gone] 3)) (g:=wr.heap.size + 1) (c:=4) [x.id,x.free,x.held,x.gone] (HWq.out.step HBb.out) (heap_alloc2_new wr _ _) HE.out (by simp) (by omega) (by omega))
   go_wp2_with fail
   refine HN.out.mono ?_
   rintro _ w4 ⟨rfl,hW4,hb4,hk4⟩
   have HX4:=hI (qew hk4 (by omega) (by decide) HBX.out)
   have HW4:=hI hW4
   have HB4:Hid (Below w0.heap.size wr w4):=hI ((HBb.out.mono HWq.out.b.size).trans hb4)
   have HK4:=hI ((KeepT.of_below (b:=b) HBb.out).trans hk4)
   clear hW4 hb4 hk4 HN e0 e1 e2 e3
   go_wp2
   go_roundw
   case rel =>
    refine ⟨k + 1,by go_num,by omega,hI ?_,hI (HBq.out.trans HB4.out),hI (HKq.out.trans HK4.out)⟩
    rw [HS.out,←List.append_assoc,HL2.out]
    have:=HW4.out
    skip
    exact this
   case measure=>simp [intOf];omega
  ·have hlt':decide ((k:Int) < (z1.size:Int))=false:=decide_eq_false (by omega)
   have hkz:k=z1.size:=by omega
   rw [hkz,List.take_of_length_le (by simp)] at HWq hlr2
   obtain ⟨l3,hl3⟩:∃ y,l1 ++ z1.toList.flatMap itL=y:=⟨_,rfl⟩
   rw [hl3] at HWq hlr2
   have HL3:=hI hl3
   have HG3:=hI (qew HKq.out (by omega) (by decide) HG2.out)
   have HBA:=hI (HBA.out.trans HBq.out)
   have HKA:=hI (HKA.out.trans HKq.out)
   have hbq:=HWq.out.lt
   have q1:=(cell_of_row wr w.heap.size 1 _ _ (0,0) HG3.out).trans rfl
   have HN:=hI (wnum (w:=wr.alloc (.cells #[.int .i64 z2.size] 3)) (g:=wr.heap.size) (c:=1) [(z2.size:Int)] (HWq.out.step (bel1 wr _)) (heap_alloc_new wr _) (by intro x hx;simp only [List.mem_cons,List.not_mem_nil,or_false] at hx;subst hx;unfold may6;omega) (by simp) (by omega) (by omega))
   simp only [List.length_cons,List.length_nil,Nat.zero_add,List.map_cons,List.map_nil,Int.toNat_natCast,List.flatMap_cons,List.flatMap_nil,List.append_nil] at HN
   clear hl3 hkz hk HBq HKq hbd hkc
   go_wp2_with fail
   refine HN.out.mono ?_
   rintro _ w3 ⟨rfl,hW2,hb2,hk2⟩
   have HG4:=hI (qew ((KeepT.of_below (b:=b) (bel1 wr (.cells #[.int .i64 z2.size] 3))).trans hk2) (by omega) (by decide) HG3.out)
   have HBA:=hI (HBA.out.trans (((bel1 wr (.cells #[.int .i64 z2.size] 3)).mono HWq.out.b.size).trans hb2))
   have HKA:=hI (HKA.out.trans ((KeepT.of_below (b:=b) (bel1 wr (.cells #[.int .i64 z2.size] 3))).trans hk2))
   have HWr:=hI hW2
   have hnb:=qbp z2.size (by omega)
   obtain ⟨l4,hl4⟩:∃ y,l3 ++ numB z2.size=y:=⟨_,rfl⟩
   have hlr4:l4.length≤60000010:=by rw [←hl4,List.length_append];omega
   rw [hl4] at HWr
   have HL4:=hI hl4
   have q1:=(cell_of_row w3 w.heap.size 1 _ _ (0,0) HG4.out).trans rfl
   clear hW2 hb2 hk2 HN hl4 hnb
   go_wp2
   clear q1
   go_loopw [42] (fun i wq=>∃ k:Nat,i=.int .i64 k∧k≤z2.size∧Hid (WW w0 b (l4 ++ (z2.toList.take k).flatMap seL) wq)∧Hid (Below w0.heap.size w3 wq)∧Hid (KeepT b w3 wq)) (fun i _=>z2.size - (intOf i).toNat)
   case atStart=>exact ⟨0,rfl,Nat.zero_le _,hI (by simpa using HWr.out),hI (Below.refl _ _),hI (KeepT.refl _ _)⟩
   case round =>
    obtain ⟨k,rfl,hk,HWq,HBq,HKq⟩:=hrel
    have hbd:=qdx (z:=z2) (f:=seL) (C:=500) (fun x hx=>seL_len (HM.out.si x hx)) k hk
    have hkc:k * 500≤20 * 500:=Nat.mul_le_mul_right _ (by omega)
    have hlr2:(l4 ++ (z2.toList.take k).flatMap seL).length≤70000000:=by
     rw [List.length_append];omega
    by_cases hlt:k < z2.size
    ·have kz:(k:Int) < (z2.size:Int):=by omega
     have HS:Hid ((z2.toList.take (k + 1)).flatMap seL=(z2.toList.take k).flatMap seL ++ seL z2[k]!):=qbi _ _ hlt
     obtain ⟨b2,off,rfl,hb2,ff⟩:=(HR2.out.below HWq.out.b).mono HWq.out.b.size |>.at_ (i:=k) hlt
     have HE:=hI (HM.out.si z2[k]! (by rw [getElem!_pos z2 k hlt];simp))
     obtain ⟨x,hx⟩:∃ x,z2[k]! = x:=⟨_,rfl⟩
     rw [hx] at ff HS HE
     have e0:=ff 0 (by omega)
     have e1:=ff 1 (by omega)
     have e2:=ff 2 (by omega)
     clear hx ff hbd hkc
     simp only [Nat.add_zero,qcw,List.getElem!_cons_zero,List.getElem!_cons_succ] at e0 e1 e2
     have hbr:=HWq.out.lt
     obtain ⟨l2,hl2⟩:∃ y,l4 ++ (z2.toList.take k).flatMap seL=y:=⟨_,rfl⟩
     rw [hl2] at HWq hlr2
     have HL2:=hI hl2
     clear hl2
     have HBX:Hid (((wr.alloc (.cells #[.int .i64 x.cl,.int .i64 x.seq,.string x.rep] 86)).alloc (.cells #[.int .i64 x.cl,.int .i64 x.seq] 3)).heap[wr.heap.size]?=some (.cells #[.int .i64 x.cl,.int .i64 x.seq,.string x.rep] 86 (0,0))):=qes (heap_alloc_new wr _)
     have HBb:Hid (Below wr.heap.size wr ((wr.alloc (.cells #[.int .i64 x.cl,.int .i64 x.seq,.string x.rep] 86)).alloc (.cells #[.int .i64 x.cl,.int .i64 x.seq] 3))):=qad (bel1 wr _) _
     have HN:=hI (wnum (w:=(wr.alloc (.cells #[.int .i64 x.cl,.int .i64 x.seq,.string x.rep] 86)).alloc (.cells #[.int .i64 x.cl,.int .i64 x.seq] 3)) (g:=wr.heap.size + 1) (c:=2) [x.cl,x.seq] (HWq.out.step HBb.out) (heap_alloc2_new wr _ _) HE.out.1 (by simp) (by omega) (by omega))
     go_wp2_with fail
     refine HN.out.mono ?_
     rintro _ w4 ⟨rfl,hW4,hb4,hk4⟩
     have HX4:=hI (qew hk4 (by omega) (by decide) HBX.out)
     have HW4:=hI hW4
     have HB4:Hid (Below w0.heap.size wr w4):=hI ((HBb.out.mono HWq.out.b.size).trans hb4)
     have HK4:=hI ((KeepT.of_below (b:=b) HBb.out).trans hk4)
     clear hW4 hb4 hk4 HN e0 e1 e2
     have hnl:=qfa HE.out.1
     have hn2:(seN x).length=2:=rfl
     have c8:=(cell_of_row w4 wr.heap.size 2 _ _ (0,0) HX4.out).trans rfl
     have HT:=hI (wtext x.rep HW4.out (by have:=HE.out.2;omega) (by rw [List.length_append];unfold seN at hnl hn2;omega))
     clear hnl hn2
     go_wp2_with fail
     refine HT.out.mono ?_
     rintro _ w5 ⟨rfl,hW5,hb5,hk5⟩
     have HW4:=hI hW5
     have HB4:=hI (HB4.out.trans hb5)
     have HK4:=hI (HK4.out.trans hk5)
     clear hW5 hb5 hk5 HT c8
     go_wp2
     go_roundw
     case rel =>
      refine ⟨k + 1,by go_num,by omega,hI ?_,hI (HBq.out.trans HB4.out),hI (HKq.out.trans HK4.out)⟩
      rw [HS.out,←List.append_assoc,HL2.out]
      have:=HW4.out
      rw [List.append_assoc] at this
      exact this
     case measure=>simp [intOf];omega
    ·have hlt':decide ((k:Int) < (z2.size:Int))=false:=decide_eq_false (by omega)
     have hkz:k=z2.size:=by omega
     rw [hkz,List.take_of_length_le (by simp)] at HWq hlr2
     clear hbd hkc
     go_wp2
     go_end0
     refine ⟨rfl,?_,HBA.out.trans HBq.out,HKA.out.trans HKq.out⟩
     have:=HWq.out
     rw [←HL4.out,←HL3.out,←HL1.out] at this
     unfold stoL
     simpa [List.append_assoc] using this
end Go.Proofs.YtnmojicfmcbgmaaGreatDoor
namespace Go.Proofs.YtnmojicfmcbgmaaGreatDoor
open Go.RowKit Go.Sort Go.Lib Nb
set_option maxRecDepth 100000
def n10 (r:RP):List Int:=[r.n,r.f,r.self,r.clock,r.seq,r.floor,r.ticks,r.lt,r.lid,r.count]
structure LayB (r:RP):Prop where
 n:∀ x ∈ n10 r,may6 x
 e:∀ x ∈ r.e.z.toList,EntB x
 es:r.e.z.size≤100
 o:(∀ x ∈ r.o.z.toList,may6 x.1∧may6 x.2)∧r.o.z.size≤1000
 h:HearB r
 s:StoB r.it.z r.ss.z
theorem entB_of {e:EN} (h:qgc e=true):EntB e:=by
 unfold qgc at h
 simp only [Bool.and_eq_true,decide_eq_true_eq] at h
 obtain ⟨⟨⟨⟨h1,h2⟩,_⟩,h4,h5⟩,_⟩:=h
 unfold qmp at h1
 unfold qld at h2
 refine ⟨fun x hx=>?_,h1.2.2.2.2.2.2.2,fun a ha=>?_,by omega⟩
 ·simp only [List.mem_cons,List.not_mem_nil,or_false] at hx
  unfold may6
  rcases hx with rfl | rfl | rfl | rfl | rfl | rfl | rfl | rfl <;> omega
 ·obtain ⟨i,hi,rfl⟩:=qdg ha
  unfold qkj at h4
  rw [List.all_eq_true] at h4
  have:=h4 i (List.mem_range.2 hi)
  rw [Bool.and_eq_true] at this
  have:=this.1
  unfold ackB at this
  rw [decide_eq_true_eq] at this
  unfold may6
  omega
theorem lay_of {r:RP} (h:chkW r=true) (hw:qed r=false):LayB r:=by
 unfold chkW at h
 rw [Bool.and_eq_true,Bool.and_eq_true] at h
 obtain ⟨hc,hi,hs⟩:=h
 unfold qed at hw
 simp only [Bool.or_eq_false_iff,decide_eq_false_iff_not,qfz] at hw
 obtain ⟨w1,w2,w3⟩:=hw
 have hn:=chkR_n hc
 have hkn:=qjm hc
 have hdn:=qwn hc
 obtain ⟨clk1,_,clk3,_⟩:=qhn.1 (qho hc)
 have hm:=qhp.1 (qhb hc)
 obtain ⟨⟨a1,a2,a3,a4,a5,a6,a7,a8,a9,a10,a11,a12,a13,a14,a15⟩,hB,hC⟩:=(qdz r).1 hc
 have hsz:=(qmi _ _).1 a1
 unfold qeb at hsz
 have hfr:=(qdr.1 a14).2
 have ht:chkT r.e.z=true:=by
  unfold tabE at a11
  cases hx:chkT r.e.z
  ·rw [hx] at a11;cases a11
  ·rfl
 have ht2:=qin.1 ht
 have hl:may6 r.lt∧may6 r.lid:=by
  have hf:finB r=true:=by
   have:=hc
   unfold chkR at this
   rw [Bool.and_eq_true] at this
   exact this.2
  unfold finB at hf
  rw [Bool.and_eq_true] at hf
  have:=hf.2
  unfold lastB at this
  rw [decide_eq_true_eq] at this
  unfold may6
  omega
 have hi2:=qjk.1 hi
 have hs2:=qjl.1 hs
 refine ⟨fun x hx=>?_,fun x hx=>?_,by have:=ht2.1;omega,⟨fun x hx=>?_,by omega⟩,⟨by omega,fun x hx=>?_,by have:=hm.2.1;omega,fun x hx=>?_,⟨hfr.2,by have:=hfr.1;omega⟩,by omega,fun x hx=>?_⟩,⟨hi2.1,hs2.1,fun x hx=>?_,fun x hx=>?_⟩⟩
 ·unfold n10 at hx
  unfold may6 at hl ⊢
  simp only [List.mem_cons,List.not_mem_nil,or_false] at hx
  rcases hx with rfl | rfl | rfl | rfl | rfl | rfl | rfl | rfl | rfl | rfl <;> omega
 ·obtain ⟨i,h1,rfl⟩:=qdg hx
  have:=ht2.2 i h1
  unfold atT at this
  rw [Bool.and_eq_true] at this
  exact entB_of this.1
 ·obtain ⟨p1,p2,p3⟩:=clk3 x hx
  exact ⟨⟨by omega,by omega⟩,qpr p3⟩
 ·obtain ⟨i,h1,rfl⟩:=qdg hx
  have h2:=w2 i h1
  have hk:=qfw.1 (qpp hc i h1)
  have b0:0≤r.k.z[i]!.base:=hk.b0
  refine ⟨⟨b0,hk.b1⟩,⟨qpq hk.rs,by omega⟩,⟨fun y hy=>?_,by omega⟩⟩
  obtain ⟨a,b,c⟩:=((qcz _ _ _).1 hk.up).2 y hy
  exact ⟨⟨by have:r.k.z[i]!.base < y.1:=a;omega,b⟩,qpr c⟩
 ·obtain ⟨i,h1,rfl⟩:=qdg hx
  have:=qdr.1 (hm.2.2 i h1)
  exact ⟨this.2.2,by have:=this.2.1;omega⟩
 ·obtain ⟨i,h1,rfl⟩:=qdg hx
  have:=w3 i h1
  exact ⟨qpq (hB.2 i (by omega)).2.1,by omega⟩
 ·obtain ⟨i,h1,rfl⟩:=qdg hx
  have:=(hi2.2 i h1).1
  unfold itB at this
  rw [decide_eq_true_eq] at this
  intro y hy
  unfold itN at hy
  simp only [List.mem_cons,List.not_mem_nil,or_false] at hy
  unfold may6
  rcases hy with rfl | rfl | rfl | rfl <;> omega
 ·obtain ⟨i,h1,rfl⟩:=qdg hx
  have:=(hs2.2 i h1).1
  unfold seB at this
  rw [decide_eq_true_eq] at this
  refine ⟨fun y hy=>?_,this.2.2.2.2⟩
  unfold seN at hy
  simp only [List.mem_cons,List.not_mem_nil,or_false] at hy
  unfold may6
  rcases hy with rfl | rfl <;> omega
def qbs (r:RP):List UInt8:=((n10 r).map Int.toNat).flatMap numB ++ (enC.list 1000 (by decide)).b (r.e.z.toList.map entM) ++ rowB (qbg r.o.z).flatten ++ qou r ++ stoL r.it.z r.ss.z
theorem qip (r:RP):qbs r=repC.b (repM r):=by
 have e1:((n10 r).map Int.toNat).flatMap numB=numB r.n.toNat ++ (qpg r).flatMap numB:=rfl
 have e2:r.k.z.toList.flatMap knB=(r.k.z.toList.map knM).flatMap knC.b:=by rw [List.flatMap_map];rfl
 have e3:r.m.z.toList.flatMap (fun x=>rowB (intM x.z).flatten)=(r.m.z.toList.map (fun x=>intM x.z)).flatMap (fun gs=>rowB gs.flatten):=by rw [List.flatMap_map]
 have e4:r.d.z.toList.flatMap (fun x=>rowB (qbg x.z).flatten)=(r.d.z.toList.map (fun x=>qbg x.z)).flatMap (fun gs=>rowB gs.flatten):=by rw [List.flatMap_map]
 have e5:numB r.it.z.size ++ r.it.z.toList.flatMap itL=numB (r.it.z.toList.map itM).length ++ (r.it.z.toList.map itM).flatMap (nC.vec 4).b:=by rw [List.flatMap_map,List.length_map,Array.length_toList];rfl
 have e6:numB r.ss.z.size ++ r.ss.z.toList.flatMap seL=numB (r.ss.z.toList.map seM).length ++ (r.ss.z.toList.map seM).flatMap seC.b:=by rw [List.flatMap_map,List.length_map,Array.length_toList];rfl
 unfold qbs qou stoL
 rw [e1,e2,e3,e4,e5,e6]
 show _=(numB r.n.toNat ++ (qpg r).flatMap numB) ++ ((enC.list 1000 (by decide)).b (r.e.z.toList.map entM) ++ (rowB (qbg r.o.z).flatten ++ ((r.k.z.toList.map knM).flatMap knC.b ++ ((r.m.z.toList.map (fun x=>intM x.z)).flatMap (fun gs=>rowB gs.flatten) ++ (rowB (intM r.fr.z).flatten ++ ((r.d.z.toList.map (fun x=>qbg x.z)).flatMap (fun gs=>rowB gs.flatten) ++ ((numB (r.it.z.toList.map itM).length ++ (r.it.z.toList.map itM).flatMap (nC.vec 4).b) ++ (numB (r.ss.z.toList.map seM).length ++ (r.ss.z.toList.map seM).flatMap seC.b))))))))
 simp only [List.append_assoc]
def putE (r:RP):Int:=if chkW r=true then (if qed r=true then 3 else if 18000 < (qbs r).length then 3 else 0) else 2
end Go.Proofs.YtnmojicfmcbgmaaGreatDoor
namespace Go.Proofs.YtnmojicfmcbgmaaGreatDoor
open Go.RowKit Go.Sort Nb
theorem qqg {n:Nat} {f g:Nat→Bool} (h:∀ i,i < n→f i=g i):(List.range n).all f=(List.range n).all g:=by
 rw [Bool.eq_iff_iff,List.all_eq_true,List.all_eq_true]
 exact ⟨fun k i hi=>by rw [←h i (List.mem_range.1 hi)];exact k i hi,fun k i hi=>by rw [h i (List.mem_range.1 hi)];exact k i hi⟩
theorem qlg {n:Nat} {f g:Nat→Bool} (h:∀ i,i < n→f i=g i):anyN n f=anyN n g:=by
 unfold anyN
 rw [Bool.eq_iff_iff,List.any_eq_true,List.any_eq_true]
 exact ⟨fun ⟨i,hi,k⟩=>⟨i,hi,by rw [←h i (List.mem_range.1 hi)];exact k⟩,fun ⟨i,hi,k⟩=>⟨i,hi,by rw [h i (List.mem_range.1 hi)];exact k⟩⟩
theorem allN_iff {n m:Nat} {p:Nat→Bool}:allN n m p=true↔n=m∧∀ j,j < n→p j=true:=by
 unfold allN
 rw [Bool.and_eq_true,decide_eq_true_eq,List.all_eq_true]
 exact ⟨fun ⟨h,g⟩=>⟨h,fun j hj=>g j (List.mem_range.2 hj)⟩,fun ⟨h,g⟩=>⟨h,fun j hj=>g j (List.mem_range.1 hj)⟩⟩
theorem qxo {x y:EN} (h:qkk x y):qgc x=qgc y:=by
 obtain ⟨h1,h2,h3,h4,h5,h6,h7,h8,h9,h10⟩:=h
 unfold qgc qmp qld qjp
 simp only [h1,h2,h3,h4,h5,h6,h7,h8,h9,h10]
theorem chkT_same {d1 d2:Array EN} (h:qij d1 d2=true):chkT d1=chkT d2:=by
 unfold qij at h
 rw [decide_eq_true_eq] at h
 obtain ⟨h1,h2⟩:=h
 unfold chkT
 rw [←h1]
 congr 1
 refine qqg fun i hi=>?_
 unfold atT
 rw [qxo (h2 i hi),(h2 i hi).1,(h2 (i - 1) (by omega)).1]
theorem chkR_same {a b:RP} (h:qha a b=true):chkR a=chkR b:=by
 unfold qha at h
 simp only [Bool.and_eq_true,decide_eq_true_eq] at h
 obtain ⟨⟨n1,n2,n3,n4,n5,n6,n7,n8,n9,n10⟩,⟨⟨⟨⟨⟨ht,ho⟩,hk⟩,hm⟩,hfr⟩,hd⟩⟩:=h
 unfold qrv at hk
 unfold sameM at hm
 unfold sameD at hd
 rw [allN_iff] at hk hm hd
 have ht':=ht
 unfold qij at ht'
 rw [decide_eq_true_eq] at ht'
 have e1:qib a=qib b:=by
  unfold qib
  rw [n1,n2,n3,n5,n7,n10,n4,n6,ho]
 have e2:qtc a=qtc b:=by
  unfold qtc
  rw [chkT_same ht,ht'.1]
  congr 2
  refine qlg fun i hi=>?_
  unfold farB
  rw [n1,(ht'.2 i (by omega)).1]
 have e3:qly a=qly b:=by
  unfold qly
  rw [n1,hk.1,hfr]
  congr 2
  ·congr 2
   refine qlg fun i hi=>?_
   rw [qqu.1 (hk.2 i (by omega))]
  ·unfold qhr
   rw [hm.1]
   congr 1
   refine qqg fun i hi=>?_
   rw [of_decide_eq_true (hm.2 i (by omega))]
 have e4:finB a=finB b:=by
  unfold finB
  rw [n1,hd.1,n8,n9]
  congr 3
  refine qlg fun i hi=>?_
  rw [of_decide_eq_true (hd.2 i (by omega))]
 unfold chkR
 rw [e1,e2,e3,e4]
theorem qiq {a b:RP} (h:qkb a b=true):chkW a=chkW b:=by
 unfold qkb at h
 simp only [Bool.and_eq_true,decide_eq_true_eq] at h
 unfold chkW
 rw [chkR_same h.1,h.2.1,h.2.2]
theorem qol {n:Nat} {hn:0 < n} {gs:GS} (h:(rowC n hn).ok gs):gs.length * n≤1000:=by
 have:=qcp n gs (fun g hg=>(h.1 g hg).1)
 have:=h.2
 omega
theorem qir {d:Array (Int×Int)} (h:(rowC 2 (by decide)).ok (qbg d)):d.size≤500:=by
 have:=qol h
 unfold qbg at this
 simp at this
 omega
theorem quu {d:Array Int} (h:(rowC 1 (by decide)).ok (intM d)):d.size≤1000:=by
 have:=qol h
 unfold intM at this
 simp at this
 omega
theorem quv {α β:Type} [Inhabited α] {f:α→β} {P:β→Prop} {d:Array α} (h:∀ x ∈ d.toList.map f,P x):∀ i,i < d.size→P (f d[i]!):=fun i hi=>h _ (List.mem_map.2 ⟨d[i]!,by rw [getElem!_pos d i hi];simp,rfl⟩)
structure FewI (r:RP):Prop where
 c:FewC r
 it:r.it.z.size≤1000
 ss:r.ss.z.size≤1000
 w:qed r=false
 n:0≤r.n∧r.n≤9
theorem qom {r:RP} (h:repC.ok (repM r)) (hn:NN r):FewI r:=by
 obtain ⟨⟨h0,_⟩,he,ho,hk,hm,hf,hd,hi,hs⟩:=h
 have n9:r.n.toNat≤9:=h0
 have e1:(r.e.z.toList.map entM).length≤1000:=he.1
 have k1:(r.k.z.toList.map knM).length=r.n.toNat:=hk.1
 have m1:(r.m.z.toList.map fun x=>intM x.z).length=r.n.toNat:=hm.1
 have d1:(r.d.z.toList.map fun x=>qbg x.z).length=r.n.toNat:=hd.1
 have i1:(r.it.z.toList.map itM).length≤1000:=hi.1
 have s1:(r.ss.z.toList.map seM).length≤1000:=hs.1
 simp only [List.length_map,Array.length_toList] at e1 k1 m1 d1 i1 s1
 have e2:=quv (fun x hx=>he.2.2 x hx)
 have k2:=quv (fun x hx=>hk.2 x hx)
 have m2:=quv (fun x hx=>hm.2 x hx)
 have d2:=quv (fun x hx=>hd.2 x hx)
 have k3:∀ i,i < r.k.z.size→r.k.z[i]!.r.z.size≤500∧r.k.z[i]!.a.z.size≤500:=fun i hi=>⟨qir (k2 i hi).2.1,qir (k2 i hi).2.2⟩
 have d3:∀ i,i < r.d.z.size→r.d.z[i]!.z.size≤500:=fun i hi=>qir (d2 i hi)
 have o3:r.o.z.size≤500:=qir ho
 refine ⟨⟨e1,fun i hi=>?_,by omega,by omega,by omega,fun i hi=>quu (m2 i hi),quu hf,by omega,fun i hi=>by have:=d3 i hi;omega,fun i hi=>by have:=k3 i hi;omega⟩,i1,s1,?_,⟨hn.h.1,by omega⟩⟩
 ·obtain ⟨_,a2,a3⟩:=e2 i hi
  have b2:(r.e.z[i]!).pay.data.toList.length≤300:=a2
  have b3:((r.e.z[i]!).z.toList.map ackN).length * 6≤1000:=qol a3
  simp at b2 b3
  have b2':r.e.z[i]!.pay.size≤300:=b2
  omega
 ·unfold qed
  simp only [Bool.or_eq_false_iff,decide_eq_false_iff_not,qfz]
  exact ⟨by omega,fun i hi=>by have:=k3 i hi;omega,fun i hi=>by have:=d3 i hi;omega⟩
def rd0 (s:List UInt8):IS×RepT:=repC.rd s ⟨⟨0,0⟩,false⟩
def tkE (s:List UInt8):Nat:=if 18000 < s.length then 3 else if (endR s (rd0 s).1.r).e≠0 then (endR s (rd0 s).1.r).e else if (rd0 s).1.odd=true then 5 else 0
def TkO (s:List UInt8) (r:RP) (c:Nat):Prop :=
 (tkE s≠0∧c=tkE s∧r=default)∨(tkE s=0∧c=2∧r=default∧∃ x,repM x=(rd0 s).2∧NN x∧chkW x=false)∨(tkE s=0∧c=0∧repM r=(rd0 s).2∧NN r∧chkW r=true)
theorem qnb (r:RP):qkb r r=true:=by
 unfold qkb
 rw [qtu]
 simp
theorem TkO.uniq {s:List UInt8} {a b:RP} {c d:Nat} (h:TkO s a c) (g:TkO s b d):c=d∧qkb a b=true:=by
 rcases h with ⟨h1,rfl,rfl⟩ | ⟨h1,rfl,rfl,x,hx,nx,cx⟩ | ⟨h1,rfl,hx,nx,cx⟩
 ·rcases g with ⟨_,rfl,rfl⟩ | ⟨g1,_⟩ | ⟨g1,_⟩
  ·exact ⟨rfl,qnb _⟩
  ·exact absurd g1 h1
  ·exact absurd g1 h1
 ·rcases g with ⟨g1,_⟩ | ⟨_,rfl,rfl,y,hy,ny,cy⟩ | ⟨_,rfl,hy,ny,cy⟩
  ·exact absurd h1 g1
  ·exact ⟨rfl,qnb _⟩
  ·have:=qiq (qga (hx.trans hy.symm) nx ny)
   rw [cx,cy] at this
   cases this
 ·rcases g with ⟨g1,_⟩ | ⟨_,rfl,rfl,y,hy,ny,cy⟩ | ⟨_,rfl,hy,ny,cy⟩
  ·exact absurd h1 g1
  ·have:=qiq (qga (hx.trans hy.symm) nx ny)
   rw [cx,cy] at this
   cases this
  ·exact ⟨rfl,qga (hx.trans hy.symm) nx ny⟩
theorem quw (s:List UInt8) (r:RS):(endR s r).e=0↔r.e=0∧s.length≤r.pos:=by
 unfold endR
 split
 ·rename_i h
  constructor
  ·intro h2;cases h2
  ·rintro ⟨_,h2⟩;omega
 ·rename_i h
  constructor
  ·intro h2;exact ⟨h2,by by_cases h3:r.pos < s.length;exact absurd ⟨h2,h3⟩ h;omega⟩
  ·rintro ⟨h2,_⟩;exact h2
theorem qsj {s:List UInt8} (h:tkE s=0):s.length≤18000∧s=repC.b (rd0 s).2∧repC.ok (rd0 s).2∧(rd0 s).1=⟨⟨s.length,0⟩,false⟩:=by
 unfold tkE at h
 split at h
 ·cases h
 ·rename_i hl
  split at h
  ·rename_i h2;exact absurd h h2
  ·rename_i h2
   split at h
   ·cases h
   ·rename_i h3
    have h2':(endR s (rd0 s).1.r).e=0:=by omega
    obtain ⟨e0,hp⟩:=(quw _ _).1 h2'
    have h3':(rd0 s).1.odd=false:=by simpa using h3
    obtain ⟨_,_,b3,b4,b5⟩:=repC.back s ⟨⟨0,0⟩,false⟩ e0 h3'
    have hp2:(rd0 s).1.r.pos≤s.length:=b5 (Nat.zero_le _)
    have hp3:(rd0 s).1.r.pos=s.length:=by omega
    refine ⟨by omega,?_,b4,?_⟩
    ·have b3':s.drop 0=repC.b (rd0 s).2 ++ s.drop (rd0 s).1.r.pos:=b3
     rw [hp3,List.drop_length,List.append_nil,List.drop_zero] at b3'
     exact b3'
    ·rcases hz:rd0 s with ⟨⟨⟨p,e⟩,o⟩,q⟩
     rw [hz] at e0 h3' hp3
     simp only at e0 h3' hp3
     rw [e0,h3',hp3]
theorem qsk {s t:List UInt8} {x:RepT} (hs:s=repC.b x ++ t) (hx:repC.ok x):rd0 s=(⟨⟨(repC.b x).length,0⟩,false⟩,x):=by
 have:=repC.laid s ⟨⟨0,0⟩,false⟩ t x rfl (by rw [List.drop_zero];exact hs) hx
 rw [Nat.zero_add] at this
 exact this
theorem tk_all {x:RepT} (hl:(repC.b x).length≤18000) (hx:repC.ok x):tkE (repC.b x)=0:=by
 have:=qsk (s:=repC.b x) (t:=[]) (by simp) hx
 unfold tkE
 rw [if_neg (by omega),this,if_neg,if_neg (by simp)]
 show ¬ (endR (repC.b x) ⟨(repC.b x).length,0⟩).e≠0
 have:=(quw (repC.b x) ⟨(repC.b x).length,0⟩).2 ⟨rfl,Nat.le_refl _⟩
 omega
end Go.Proofs.YtnmojicfmcbgmaaGreatDoor
namespace Go.Proofs.YtnmojicfmcbgmaaGreatDoor
open Go.RowKit Go.Sort Go.Lib Nb
set_option maxRecDepth 100000
attribute [local go_sem ↓] qbc qba
attribute [local go_sem] qbt qci
def qdn:ByteArray:=⟨#[105,109,97,103,101]⟩
def PutP (r:RP) (e:Ending) (w':World):Prop:=(putE r=0∧e=.returned (.tuple #[.string ⟨(qbs r).toArray⟩,.nilIface]))∨(putE r≠0∧∃ v,e=.returned (.tuple #[.string ⟨#[]⟩,v])∧Chain w' [qdn] (putE r) v)
theorem qxp (r:RP):(n10 r).length=10:=rfl
theorem bytes_pos (r:RP):qbs r≠[]:=by
 intro h
 have h1:numB r.n.toNat=[]:=by
  unfold qbs at h
  simp only [List.append_eq_nil_iff] at h
  have:=h.1.1.1.1
  unfold n10 at this
  simp only [List.map_cons,List.flatMap_cons,List.append_eq_nil_iff] at this
  exact this.1
 have:=numB_pos r.n.toNat
 rw [h1] at this
 exact absurd this (by decide)
theorem hear_len {r:RP} (h:HearB r):(qou r).length≤2000000:=by
 have h1:=qdx (z:=r.k.z) (f:=knB) (fun x hx=>qot (h.k x hx)) r.k.z.size (Nat.le_refl _)
 have h2:=qdx (z:=r.m.z) (f:=fun x=>rowB (intM x.z).flatten) (C:=10000) (fun x hx=>qhf (h.m x hx).1 (h.m x hx).2) r.m.z.size (Nat.le_refl _)
 have h3:=qdx (z:=r.d.z) (f:=fun x=>rowB (qbg x.z).flatten) (C:=20000) (fun x hx=>qfd (h.d x hx).1 (h.d x hx).2) r.d.z.size (Nat.le_refl _)
 have h4:=qhf h.fr.1 h.fr.2
 rw [List.take_of_length_le (by simp)] at h1 h2 h3
 have k1:r.k.z.size * 50000≤20 * 50000:=Nat.mul_le_mul_right _ h.kn
 have k2:r.m.z.size * 10000≤20 * 10000:=Nat.mul_le_mul_right _ h.mn
 have k3:r.d.z.size * 20000≤20 * 20000:=Nat.mul_le_mul_right _ h.dn
 unfold qou
 rw [List.length_append,List.length_append,List.length_append]
 omega
theorem qux {z:Array EN} (h:∀ x ∈ z.toList,EntB x) (hs:z.size≤100):((enC.list 1000 (by decide)).b (z.toList.map entM)).length≤1000010:=by
 have h1:=qlo h z.size (Nat.le_refl _)
 unfold qef at h1
 rw [List.take_of_length_le (by simp)] at h1
 have h2:=qbp z.size (by omega)
 have e:(enC.list 1000 (by decide)).b (z.toList.map entM)=numB z.size ++ z.toList.flatMap (fun e=>enC.b (entM e)):=by
  show numB (z.toList.map entM).length ++ (z.toList.map entM).flatMap enC.b=_
  rw [List.flatMap_map,List.length_map,Array.length_toList]
 rw [e,List.length_append]
 have:z.size * 10000≤100 * 10000:=Nat.mul_le_mul_right _ hs
 omega
set_option maxHeartbeats 16000000 in
theorem qis (r:RP) (w:World) (h:RdP w r) (hf:FewC r) :
 Calls Tryz.prog 8 #[.agg (encP r).toArray] w fun e w'=>PutP r e w'∧Below w.heap.size w w':=by
 have HC:Hid (∀ W,Below w.heap.size w W→Calls Tryz.prog 16 #[.agg (encP r).toArray] W fun e w'=>e=.returned (.int .i64 (repW r))∧Below W.heap.size W w'):=fun W hb=>qke r W (h.below hb) hf
 have HWD:Hid (∀ W,Below w.heap.size w W→Calls Tryz.prog 21 #[.agg (encP r).toArray] W fun e w'=>e=.returned (.bool (qed r))∧Below W.heap.size W w'):=fun W hb=>qxq r W (h.below hb) (by have:=hf.k;omega) (by have:=hf.d;omega)
 have HR:=hI h
 have HLY:=hI (@lay_of r)
 have HPE:Hid (putE r=if chkW r=true then (if qed r=true then 3 else if 18000 < (qbs r).length then 3 else 0) else 2):=rfl
 have HRW:Hid (repW r=if chkW r=true then 0 else 2):=rfl
 obtain ⟨g1,hg1⟩:∃ g,chkW r=g:=⟨_,rfl⟩
 obtain ⟨g2,hg2⟩:∃ g,qed r=g:=⟨_,rfl⟩
 rw [hg1,hg2] at HPE
 rw [HRW.out,hg1] at HC
 rw [hg2] at HWD
 rw [hg1,hg2] at HLY
 obtain ⟨cs,hcs⟩:∃ cs,cs=(encP r).toArray:=⟨_,rfl⟩
 have HI:cs.size=18:=by rw [hcs];rfl
 have HCS:=hI hcs
 rw [←hcs] at HC HWD
 clear h hf hg1 hg2 HRW
 have hgoal:∀ y:Array Value,cs=y→Calls Tryz.prog 8 #[.agg y] w fun e w'=>PutP r e w'∧Below w.heap.size w w':=by
  rintro _ rfl
  simp only [encP] at hcs
  have HX:=hI (BoxR.init w cs 35)
  have x1:=HX.out.box HI
  have x2:=HX.out.rowAt
  cases g1
  ·simp only [Bool.false_eq_true,if_false] at HC HPE
   rw [hcs]
   go_enter Tryz.func8,Tryz.ntmps8
   rw [←hcs]
   clear hcs
   go_wp2_with fail
   refine (HC.out _ HX.out.b).mono ?_
   rintro _ w1 ⟨rfl,hb1⟩
   have HX:=hI (HX.out.next hb1)
   clear hb1 x1 x2
   go_wp2_with fail
   refine (qhy qdn 2 _ (by decide)).mono ?_
   rintro _ w2 ⟨v,rfl,hch,hb2⟩
   have HX:=hI (HX.out.next hb2)
   have HCH:=hI hch
   clear hb2 hch
   go_wp2
   go_ret2
   exact ⟨Or.inr ⟨by rw [HPE.out];decide,v,rfl,by rw [HPE.out];exact HCH.out⟩,HX.out.b⟩
  simp only [if_true] at HC HPE
  rw [hcs]
  go_enter Tryz.func8,Tryz.ntmps8
  rw [←hcs]
  clear hcs
  go_wp2_with fail
  refine (HC.out _ HX.out.b).mono ?_
  rintro _ w1 ⟨rfl,hb1⟩
  have HX:=hI (HX.out.next hb1)
  clear hb1 x1 x2
  have x1:=HX.out.box HI
  have x2:=HX.out.rowAt
  go_wp2_with fail
  refine (HWD.out _ HX.out.b).mono ?_
  rintro _ w2 ⟨rfl,hb2⟩
  have HX:=hI (HX.out.next hb2)
  clear hb2 x1 x2
  cases g2
  rotate_left
  ·simp only [if_true] at HPE
   go_wp2_with fail
   refine (qhy qdn 3 _ (by decide)).mono ?_
   rintro _ w3 ⟨v,rfl,hch,hb3⟩
   have HX:=hI (HX.out.next hb3)
   have HCH:=hI hch
   clear hb3 hch
   go_wp2
   go_ret2
   exact ⟨Or.inr ⟨by rw [HPE.out];decide,v,rfl,by rw [HPE.out];exact HCH.out⟩,HX.out.b⟩
  simp only [Bool.false_eq_true,if_false] at HPE
  have HL:Hid (LayB r):=hI (HLY.out (by trivial) (by trivial))
  have hW0:WW w2 w2.heap.size [] (w2.alloc (.cells #[.pointer none,.slice none 0 0,.nilIface] 65)):=⟨Wrt.new w2,bel1 w2 _⟩
  have HXa:=hI (HX.out.next (bel1 w2 (.cells #[.pointer none,.slice none 0 0,.nilIface] 65)))
  have HR2:=hI (HR.out.below HX.out.b)
  have c0:=HXa.out.at_ 0 (v:=.int .i64 r.n) (by rw [HCS.out];rfl)
  have c1:=HXa.out.at_ 1 (v:=.int .i64 r.f) (by rw [HCS.out];rfl)
  have c2:=HXa.out.at_ 2 (v:=.int .i64 r.self) (by rw [HCS.out];rfl)
  have c3:=HXa.out.at_ 3 (v:=.int .i64 r.clock) (by rw [HCS.out];rfl)
  have c4:=HXa.out.at_ 4 (v:=.int .i64 r.seq) (by rw [HCS.out];rfl)
  have c5:=HXa.out.at_ 5 (v:=.int .i64 r.floor) (by rw [HCS.out];rfl)
  have c6:=HXa.out.at_ 6 (v:=.int .i64 r.ticks) (by rw [HCS.out];rfl)
  have c13:=HXa.out.at_ 13 (v:=.int .i64 r.lt) (by rw [HCS.out];rfl)
  have c14:=HXa.out.at_ 14 (v:=.int .i64 r.lid) (by rw [HCS.out];rfl)
  have c15:=HXa.out.at_ 15 (v:=.int .i64 r.count) (by rw [HCS.out];rfl)
  have hb3:Below w2.heap.size w2 (((w2.alloc (.cells #[.pointer none,.slice none 0 0,.nilIface] 65))).alloc (.cells ((n10 r).map (Value.int .i64)).toArray 3)):=qad (bel1 w2 _) _
  have HN:=hI (wnum (w:=(w2.alloc (.cells #[.pointer none,.slice none 0 0,.nilIface] 65)).alloc (.cells ((n10 r).map (Value.int .i64)).toArray 3)) (g:=w2.heap.size + 1) (c:=10) (n10 r) (hW0.step (bel1 _ _)) (heap_alloc2_new w2 _ _) HL.out.n (by rw [qxp];decide) (by simp) (by omega))
  have HXb:=hI (HX.out.next hb3)
  rw [qxp] at HN
  clear hW0 hb3
  go_wp2_with fail
  refine HN.out.mono ?_
  rintro _ w3 ⟨rfl,hW3,hb3,hk3⟩
  have hn1:=qfa HL.out.n
  rw [qxp] at hn1
  obtain ⟨l1,hl1⟩:∃ x,[] ++ ((n10 r).map Int.toNat).flatMap numB=x:=⟨_,rfl⟩
  have hl1s:l1.length≤100:=by rw [←hl1,List.nil_append];omega
  rw [hl1] at hW3
  have HW3:=hI hW3
  have HL1:=hI hl1
  have HX3:=hI (HX.out.next hW3.b)
  clear c0 c1 c2 c3 c4 c5 c6 c13 c14 c15 HXa HXb HN hW3 hb3 hk3 hn1 hl1
  have c7:=HX3.out.at_ 7 (v:=.slice r.e.A r.e.z.size r.e.c) (by rw [HCS.out];rfl)
  have HCM:=hI (qya r.e.A r.e.c r.e.z w3 HW3.out HR2.out.e HL.out.e HL.out.es (by omega))
  go_wp2_with fail
  refine HCM.out.mono ?_
  rintro _ w4 ⟨rfl,hW4,hb4,hk4⟩
  have hn2:=qux HL.out.e HL.out.es
  obtain ⟨l2,hl2⟩:∃ x,l1 ++ (enC.list 1000 (by decide)).b (r.e.z.toList.map entM)=x:=⟨_,rfl⟩
  have hl2s:l2.length≤1000200:=by rw [←hl2,List.length_append];omega
  rw [hl2] at hW4
  have HW4:=hI hW4
  have HL2:=hI hl2
  have HX4:=hI (HX.out.next hW4.b)
  clear c7 HCM hW4 hb4 hk4 hn2 hl2 hl1s HX3
  have c8:=HX4.out.at_ 8 (v:=.slice r.o.A r.o.z.size r.o.c) (by rw [HCS.out];rfl)
  have HRO:=hI (wrowA r.o.A r.o.c r.o.z HW4.out (HR2.out.below HW4.out.b).o.rd HL.out.o.1 HL.out.o.2 (by omega))
  go_wp2_with fail
  refine HRO.out.mono ?_
  rintro _ w5 ⟨rfl,hW5,hb5,hk5⟩
  have hn3:=qfd HL.out.o.1 HL.out.o.2
  obtain ⟨l3,hl3⟩:∃ x,l2 ++ rowB (qbg r.o.z).flatten=x:=⟨_,rfl⟩
  have hl3s:l3.length≤1100000:=by rw [←hl3,List.length_append];omega
  rw [hl3] at hW5
  have HW5:=hI hW5
  have HL3:=hI hl3
  have HX5:=hI (HX.out.next hW5.b)
  clear c8 HRO hW5 hb5 hk5 hn3 hl3 hl2s HX4
  have x1:=HX5.out.box HI
  have x2:=HX5.out.rowAt
  have hhe:=qss r w5 HW5.out HR2.out HL.out.h (by omega)
  rw [←HCS.out] at hhe
  have HHE:=hI hhe
  clear hhe
  go_wp2_with fail
  refine HHE.out.mono ?_
  rintro _ w6 ⟨rfl,hW6,hb6,hk6⟩
  have hn4:=hear_len HL.out.h
  obtain ⟨l4,hl4⟩:∃ x,l3 ++ qou r=x:=⟨_,rfl⟩
  have hl4s:l4.length≤3200000:=by rw [←hl4,List.length_append];omega
  rw [hl4] at hW6
  have HW6:=hI hW6
  have HL4:=hI hl4
  have HX6:=hI (HX.out.next hW6.b)
  clear x1 x2 HHE hW6 hb6 hk6 hn4 hl4 hl3s HX5
  have c16:=HX6.out.at_ 16 (v:=.slice r.it.A r.it.z.size r.it.c) (by rw [HCS.out];rfl)
  have c17:=HX6.out.at_ 17 (v:=.slice r.ss.A r.ss.z.size r.ss.c) (by rw [HCS.out];rfl)
  have HST:=hI (qsi r.it r.ss w6 HW6.out HR2.out.it HR2.out.ss HL.out.s (by omega))
  go_wp2_with fail
  refine HST.out.mono ?_
  rintro _ w7 ⟨rfl,hW7,hb7,hk7⟩
  have HE:Hid (l4 ++ stoL r.it.z r.ss.z=qbs r):=by
   show _=_
   rw [←HL4.out,←HL3.out,←HL2.out,←HL1.out,List.nil_append]
   rfl
  rw [HE.out] at hW7
  have HW7:=hI hW7
  have HDN:=hI (WDone_any w2.heap.size w2.heap.size (qbs r) w7 hW7.h (bytes_pos r))
  clear c16 c17 HST hW7 hb7 hk7 hl4s HX6
  obtain ⟨y,hy⟩:∃ y:ByteArray,(⟨(qbs r).toArray⟩:ByteArray)=y:=⟨_,rfl⟩
  have hys:y.size=(qbs r).length:=by rw [←hy,qdv]
  rw [hy] at HDN
  have HY:=hI hy
  clear hy
  go_wp2_with fail
  refine HDN.out.mono ?_
  rintro _ w8 ⟨rfl,hb8⟩
  have HB8:Hid (Below w.heap.size w w8):=hI (HX.out.b.trans (((HW7.out.b.trans hb8)).mono HX.out.b.size))
  clear hb8 HDN
  by_cases hbig:18000 < (qbs r).length
  ·rw [if_pos hbig] at HPE
   have hd:decide ((18000:Int) < (y.size:Int))=true:=decide_eq_true (by omega)
   clear hbig hys
   go_wp2_with fail
   refine (qhy qdn 3 _ (by decide)).mono ?_
   rintro _ w9 ⟨v,rfl,hch,hb9⟩
   have HB9:=hI (qac HB8.out hb9)
   have HCH:=hI hch
   clear hb9 hch
   go_wp2
   go_ret2
   exact ⟨Or.inr ⟨by rw [HPE.out];decide,v,rfl,by rw [HPE.out];exact HCH.out⟩,HB9.out⟩
  ·rw [if_neg hbig] at HPE
   have hd:decide ((18000:Int) < (y.size:Int))=false:=decide_eq_false (by omega)
   clear hbig hys
   go_wp2
   go_ret2
   exact ⟨Or.inl ⟨HPE.out,by rw [HY.out];rfl⟩,HB8.out⟩
 exact hgoal _ hcs
end Go.Proofs.YtnmojicfmcbgmaaGreatDoor
namespace Go.Proofs.YtnmojicfmcbgmaaGreatDoor
open Go.RowKit Go.Sort Go.Lib Nb
set_option maxRecDepth 100000
def ErrI (w:World) (c:Nat) (ev:Value):Prop:=(c=0∧ev=.nilIface)∨(c≠0∧∃ ops,ops.length≤6∧Chain w (qdn :: ops) (c:Int) ev)
def TakeI (s:ByteArray) (w:World) (e:Ending) (w':World):Prop :=
 ∃ (R:RP) (c:Nat) (ev:Value),e=.returned (.tuple #[.agg (encP R).toArray,ev])∧TkO s.data.toList R c∧RdP w' R∧ErrI w' c ev∧Below w.heap.size w w'
theorem qcq (W:World):RdP W (default:RP) :=
 ⟨⟨fun h=>absurd h (by decide),fun i hi=>absurd hi (by simp [show (default:RP).e.z=#[] from rfl])⟩,⟨fun h=>absurd h (by decide),fun _=>rfl⟩,⟨fun h=>absurd h (by decide),Nat.le_refl _,fun _=>rfl⟩,fun i hi=>absurd hi (by simp [show (default:RP).k.z=#[] from rfl]),⟨fun h=>absurd h (by decide),Nat.le_refl _,fun _=>rfl⟩,fun i hi=>absurd hi (by simp [show (default:RP).m.z=#[] from rfl]),⟨fun h=>absurd h (by decide),Nat.le_refl _,fun _=>rfl⟩,⟨fun h=>absurd h (by decide),Nat.le_refl _,fun _=>rfl⟩,fun i hi=>absurd hi (by simp [show (default:RP).d.z=#[] from rfl]),⟨fun h=>absurd h (by decide),Nat.le_refl _,fun _=>rfl⟩,⟨fun h=>absurd h (by decide),Nat.le_refl _,fun _=>rfl⟩⟩
theorem belPost {n b B:Nat} {s:ByteArray} {st:IS} {w W W':World} (h:Below w.heap.size w W) (hp:IPost n b B s st W W') (hb:w.heap.size≤b) (hB:w.heap.size≤B):Below w.heap.size w W':=h.trans (hp.2.to_below hb hB h.size)
theorem qde (r:RP):(encP r).toArray.size=18:=rfl
theorem qfb (r:RP):qbw (encP r).toArray=true:=qwm r
attribute [local go_sem ↓] qbc qba
attribute [local go_sem] qbt qbq qbz qfh qhm
set_option maxHeartbeats 16000000 in
theorem qjt (s:ByteArray) (w:World) (hg:Glob w) (hs:s.size≤1000000) :
 Calls Tryz.prog 10 #[.string s] w fun e w'=>TakeI s w e w':=by
 have hsl:s.data.toList.length=s.size:=by simp
 have HG:=hI hg
 have HS:=hI hs
 have HR0:Hid ((w.alloc (.cells #[.int .i64 0,.int .i64 0,.int .i64 0,.int .i64 0,.int .i64 0,.int .i64 0,.int .i64 0,.slice none 0 0,.slice none 0 0,.slice none 0 0,.slice none 0 0,.slice none 0 0,.slice none 0 0,.int .i64 0,.int .i64 0,.int .i64 0,.slice none 0 0,.slice none 0 0] 35)).heap[w.heap.size]?=some (.cells (encP (default:RP)).toArray 35 (0,0))):=qah w _
 have HB0:=hI (bel1 w (.cells #[.int .i64 0,.int .i64 0,.int .i64 0,.int .i64 0,.int .i64 0,.int .i64 0,.int .i64 0,.slice none 0 0,.slice none 0 0,.slice none 0 0,.slice none 0 0,.slice none 0 0,.slice none 0 0,.int .i64 0,.int .i64 0,.int .i64 0,.slice none 0 0,.slice none 0 0] 35))
 by_cases hbig:18000 < s.size
 ·have kb:(18000:Int) < (s.size:Int):=by omega
  have HTK:Hid (tkE s.data.toList=3):=by show _=_;unfold tkE;rw [hsl,if_pos hbig]
  clear hbig hsl hg hs
  go_enter Tryz.func10,Tryz.ntmps10
  go_upto_region 2 with (fail)
  obtain ⟨w0,hw0⟩:∃ W,W=w.alloc (.cells #[.int .i64 0,.int .i64 0,.int .i64 0,.int .i64 0,.int .i64 0,.int .i64 0,.int .i64 0,.slice none 0 0,.slice none 0 0,.slice none 0 0,.slice none 0 0,.slice none 0 0,.slice none 0 0,.int .i64 0,.int .i64 0,.int .i64 0,.slice none 0 0,.slice none 0 0] 35):=⟨_,rfl⟩
  rw [←hw0] at HR0 HB0 ⊢
  clear hw0
  go_wp2_with fail
  refine (qhy qdn 3 _ (by decide)).mono ?_
  rintro _ w1 ⟨v,rfl,hch,hb1⟩
  have HR1:=hI ((hb1.block _ (qaa HR0.out)).trans HR0.out)
  have HB1:=hI (qac HB0.out hb1)
  have HCH:=hI hch
  clear hb1 hch
  have x1:=qav HR1.out (qde _)
  go_wp2
  refine bodyPost_ret (qbm rfl rfl (setRow_heap _ _ _ _ _ _ HR1.out) rfl) rfl ?_
  have hgr:=qbu w1 w.heap.size (encP (default:RP)).toArray
  exact ⟨default,3,v,rfl,Or.inl ⟨by rw [HTK.out];decide,HTK.out.symm,rfl⟩,qcq _,Or.inr ⟨by decide,[],by decide,HCH.out.apart HR1.out (by decide) (fun i h1 h2=>hgr.block i h1 (by intro e;injection e with e;exact h2 e))⟩,qca HB1.out hgr (Nat.le_refl _)⟩
 ·have kb:decide ((18000:Int) < (s.size:Int))=false:=decide_eq_false (by omega)
  have HSM:Hid (¬ 18000 < s.data.toList.length):=by show ¬ _;rw [hsl];exact hbig
  clear hbig hsl hg hs
  go_enter Tryz.func10,Tryz.ntmps10
  go_upto_region 3 with (fail)
  obtain ⟨w0,hw0⟩:∃ W,W=w.alloc (.cells #[.int .i64 0,.int .i64 0,.int .i64 0,.int .i64 0,.int .i64 0,.int .i64 0,.int .i64 0,.slice none 0 0,.slice none 0 0,.slice none 0 0,.slice none 0 0,.slice none 0 0,.slice none 0 0,.int .i64 0,.int .i64 0,.int .i64 0,.slice none 0 0,.slice none 0 0] 35):=⟨_,rfl⟩
  rw [←hw0] at HR0 HB0 ⊢
  have HZ0:Hid (w0.heap.size=w.heap.size + 1):=by show _=_;rw [hw0];simp
  clear hw0
  go_wp2_with fail
  refine (RNew_any s _).mono ?_
  rintro _ w1 ⟨rfl,hw1⟩
  have HRD1:Hid (Rdr w0.heap.size s ⟨0,0⟩ w1):=by show Rdr _ _ _ _;rw [hw1];exact Rdr.new s w0
  have HB1:Hid (Below w0.heap.size w0 w1):=by show Below _ _ _;rw [hw1];exact bel1 w0 _
  have HZ1:Hid (w1.heap.size=w0.heap.size + 1):=by show _=_;rw [hw1];simp
  clear hw1
  go_upto_region 4 with (fail)
  obtain ⟨w2,hw2⟩:∃ W,W=w1.alloc (.cells #[.pointer (some ⟨w0.heap.size,0,none⟩),.bool false] 92):=⟨_,rfl⟩
  rw [←hw2]
  have HBX:Hid (w2.heap[w1.heap.size]?=some (.cells #[.pointer (some ⟨w0.heap.size,0,none⟩),.bool false] 92 (0,0))):=by show _=_;rw [hw2];exact qah w1 _
  have HB2:Hid (Below w1.heap.size w1 w2):=by show Below _ _ _;rw [hw2];exact bel1 w1 _
  have HZ2:Hid (w2.heap.size=w1.heap.size + 1):=by show _=_;rw [hw2];simp
  clear hw2
  obtain ⟨B,hB⟩:∃ p,p=w1.heap.size:=⟨_,rfl⟩
  obtain ⟨b,hb⟩:∃ p,p=w0.heap.size:=⟨_,rfl⟩
  have HBB:Hid (w.heap.size < b∧b < B∧B < w2.heap.size):=by have:=HZ0.out;have:=HZ1.out;have:=HZ2.out;exact ⟨by omega,by omega,by omega⟩
  have I2:Hid (IRd w2.heap.size b B s ⟨⟨0,0⟩,false⟩ w2):=by
   show IRd _ _ _ _ _ _
   rw [hB,hb]
   exact ⟨HBX.out,(HRD1.out.below HB2.out),(HG.out.below (qac HB0.out (qac HB1.out HB2.out))),by have:=HZ1.out;have:=HZ2.out;omega,by have:=HZ2.out;omega,Nat.le_refl _⟩
  have BW2:=hI (qac HB0.out (qac HB1.out HB2.out))
  have R2:=hI (((qac HB1.out HB2.out).block _ (qaa HR0.out)).trans HR0.out)
  rw [←hB,←hb]
  clear hB hb HZ0 HZ1 HZ2 HBX HB1 HB2 HRD1 HB0 HR0
  rcases hrd0:rd0 s.data.toList with ⟨st,gm⟩
  have HA:=hI (iall_any w2.heap.size b B s ⟨⟨0,0⟩,false⟩ w2 I2.out (by have:=qap HG.out;have:=BW2.out.size;simp only at *;omega) HS.out)
  have HRD0:=hI hrd0
  rw [show repC.rd s.data.toList ⟨⟨0,0⟩,false⟩=(st,gm) from hrd0] at HA
  clear hrd0
  go_wp2_with fail
  refine HA.out.mono ?_
  rintro _ w3 ⟨R,rfl,hrp,hms,hp⟩
  have HRP:=hI hrp
  have HMS:=hI hms
  have BW3:=hI (belPost BW2.out hp (by have:=HBB.out;omega) (by have:=HBB.out;omega))
  have R3:=hI (hp.2.heap R2.out (by have:=HBB.out;omega) (by have:=HBB.out;omega))
  have I3:=hI hp.1
  clear hrp hms hp HA
  obtain ⟨cs,hcs⟩:∃ y,(encP R).toArray=y:=⟨_,rfl⟩
  have HI:cs.size=18:=by rw [←hcs];rfl
  have H1:qbw cs=true:=by rw [←hcs];exact qfb R
  have HCS:=hI hcs
  rw [hcs]
  clear hcs
  simp only at HMS I3
  go_upto_region 5 with (fail)
  obtain ⟨q,hq⟩:∃ p,p=w3.heap.size:=⟨_,rfl⟩
  obtain ⟨w4,hw4⟩:∃ W,W=w3.alloc (.cells cs 35):=⟨_,rfl⟩
  have X4:Hid (w4.heap[w3.heap.size]?=some (.cells cs 35 (0,0))):=by show _=_;rw [hw4];exact qah w3 _
  have HB4:Hid (Below w3.heap.size w3 w4):=by show Below _ _ _;rw [hw4];exact bel1 w3 _
  rw [←hw4,←hq]
  rw [←hq] at X4
  have HQB:Hid (B < q):=by have:=qaa I3.out.bx;show B < q;rw [hq];exact this
  clear hw4 hq
  have I4:=hI (I3.out.below HB4.out)
  have R4:=hI ((HB4.out.block _ (qaa R3.out)).trans R3.out)
  have BW4:=hI (qac BW3.out HB4.out)
  have K4:=hI (KF.of_below (m:=w2.heap.size) HB4.out)
  clear R3 BW3 I3 HB4
  have cB:=I4.out.c0
  have HE:=hI (REnd_any b s st.r w4 I4.out.rd I4.out.gl)
  go_wp2_with fail
  refine HE.out.mono ?_
  rintro _ w5 ⟨rfl,hP⟩
  have I5:=hI (I4.out.rpost hP)
  have hp:IPost w2.heap.size b B s ⟨endR s.data.toList st.r,st.odd⟩ w4 w5:=⟨I5.out,hP.gr2⟩
  have R5:=hI (hp.2.heap R4.out (by have:=HBB.out;omega) (by have:=HBB.out;omega))
  have X5:=hI (hp.2.heap X4.out (by have:=HBB.out;have:=HQB.out;omega) (by have:=HQB.out;omega))
  have BW5:=hI (belPost BW4.out hp (by have:=HBB.out;omega) (by have:=HBB.out;omega))
  have K5:=hI (K4.out.trans (KF.of_post hp (Nat.le_refl _)))
  clear cB HE hP hp I4 R4 X4 BW4 K4
  have cB:=I5.out.c0
  have HDN:=hI (qfn b s _ w5 I5.out.rd)
  by_cases her:(endR s.data.toList st.r).e=0
  ·have HD0:Hid (Calls Tryz.prog 41 #[.pointer (some ⟨b,0,none⟩)] w5 fun e w'=>e=.returned .nilIface∧w5=w'):=HDN.out.mono fun e w' ⟨ev,h1,h2,h3⟩=>by
    rcases h2 with ⟨_,rfl⟩ | ⟨h2,_⟩
    ·exact ⟨h1,h3⟩
    ·exact absurd her h2
   have HER:=hI her
   have HE0:Hid (st.r.e=0):=((quw _ _).1 her).1
   clear her HDN
   go_wp2_with fail
   refine HD0.out.mono ?_
   rintro _ _ ⟨rfl,rfl⟩
   clear HD0
   have c1:=I5.out.c1
   obtain ⟨od,hod⟩:∃ x,st.odd=x:=⟨_,rfl⟩
   simp only at c1
   rw [hod] at c1
   have HOD:=hI hod
   clear hod
   cases od
   ·have HTK:Hid (tkE s.data.toList=0):=by
     show _=_
     unfold tkE
     rw [if_neg HSM.out,HRD0.out,if_neg (by rw [HER.out];simp),if_neg (by rw [HOD.out];simp)]
    have hM:=HMS.out HE0.out
    have hM2:repM R=(rd0 s.data.toList).2:=by rw [HRD0.out];exact hM.1
    have hF:=qom (r:=R) (by rw [hM2];exact (qsj HTK.out).2.2.1) hM.2
    have HM:=hI (And.intro hM2 hM.2)
    have HCK:Hid (Calls Tryz.prog 16 #[.agg cs] w5 fun e w'=>e=.returned (.int .i64 (if chkW R=true then 0 else 2))∧Below w5.heap.size w5 w'):=by
     have:=qke R w5 (HRP.out w5 K5.out) hF.c
     rw [HCS.out] at this
     exact this
    obtain ⟨g,hgc⟩:∃ x,chkW R=x:=⟨_,rfl⟩
    rw [hgc] at HCK
    have HGC:=hI hgc
    clear hgc hF hM hM2
    have x1:=qav X5.out HI
    have x2:=qbh X5.out
    go_wp2_with fail
    refine HCK.out.mono ?_
    rintro _ w6 ⟨rfl,hb6⟩
    have R6:=hI ((hb6.block _ (qaa R5.out)).trans R5.out)
    have X6:=hI ((hb6.block _ (qaa X5.out)).trans X5.out)
    have BW6:=hI (qac BW5.out hb6)
    have K6:=hI (K5.out.trans (KF.of_below hb6))
    clear hb6 x1 x2 cB c1 HCK
    cases g
    ·simp only [Bool.false_eq_true,if_false]
     go_wp2_with fail
     refine (qhy qdn 2 _ (by decide)).mono ?_
     rintro _ w7 ⟨v,rfl,hch,hb7⟩
     have HR1:=hI ((hb7.block _ (qaa R6.out)).trans R6.out)
     have HB1:=hI (qac BW6.out hb7)
     have HCH:=hI hch
     clear hb7 hch
     have x1:=qav HR1.out (qde _)
     go_wp2
     refine bodyPost_ret (qbm rfl rfl (setRow_heap _ _ _ _ _ _ HR1.out) rfl) rfl ?_
     have hgr:=qbu w7 w.heap.size (encP (default:RP)).toArray
     exact ⟨default,2,v,rfl,Or.inr (Or.inl ⟨HTK.out,rfl,rfl,R,HM.out.1,HM.out.2,HGC.out⟩),qcq _,Or.inr ⟨by decide,[],by decide,HCH.out.apart HR1.out (by decide) (fun i h1 h2=>hgr.block i h1 (by intro e;injection e with e;exact h2 e))⟩,qca HB1.out hgr (Nat.le_refl _)⟩
    ·simp only [if_true]
     have x1:=qav X6.out HI
     have x2:=qbh X6.out
     have x3:=qav R6.out (qde _)
     go_wp2
     refine bodyPost_ret (qbm rfl rfl (setRow_heap _ _ _ _ _ _ R6.out) HI) rfl ?_
     have hgr:=qbu w6 w.heap.size cs
     refine ⟨R,0,.nilIface,by rw [HCS.out];rfl,Or.inr (Or.inr ⟨HTK.out,rfl,HM.out.1,HM.out.2,HGC.out⟩),HRP.out _ (K6.out.trans (KF.of_grown hgr (by have:=HBB.out;omega))),Or.inl ⟨rfl,rfl⟩,qca BW6.out hgr (Nat.le_refl _)⟩
   ·have HTK:Hid (tkE s.data.toList=5):=by
     show _=_
     unfold tkE
     rw [if_neg HSM.out,HRD0.out,if_neg (by rw [HER.out];simp),if_pos (by rw [HOD.out])]
    go_wp2_with fail
    refine (qhy qdn 5 _ (by decide)).mono ?_
    rintro _ w7 ⟨v,rfl,hch,hb7⟩
    have HR1:=hI ((hb7.block _ (qaa R5.out)).trans R5.out)
    have HB1:=hI (qac BW5.out hb7)
    have HCH:=hI hch
    clear hb7 hch cB c1
    have x1:=qav HR1.out (qde _)
    go_wp2
    refine bodyPost_ret (qbm rfl rfl (setRow_heap _ _ _ _ _ _ HR1.out) rfl) rfl ?_
    have hgr:=qbu w7 w.heap.size (encP (default:RP)).toArray
    exact ⟨default,5,v,rfl,Or.inl ⟨by rw [HTK.out];decide,HTK.out.symm,rfl⟩,qcq _,Or.inr ⟨by decide,[],by decide,HCH.out.apart HR1.out (by decide) (fun i h1 h2=>hgr.block i h1 (by intro e;injection e with e;exact h2 e))⟩,qca HB1.out hgr (Nat.le_refl _)⟩
  ·have HTK:Hid (tkE s.data.toList=(endR s.data.toList st.r).e):=by
    show _=_
    unfold tkE
    rw [if_neg HSM.out,HRD0.out,if_pos her]
   obtain ⟨c,hc⟩:∃ x,(endR s.data.toList st.r).e=x:=⟨_,rfl⟩
   rw [hc] at HTK her
   have HD0:Hid (Calls Tryz.prog 41 #[.pointer (some ⟨b,0,none⟩)] w5 fun e w'=>(∃ op ops t u,ops.length≤5∧e=.returned (.iface t u)∧Chain w5 (op :: ops) (c:Int) (.iface t u))∧w5=w'):=HDN.out.mono fun e w' ⟨ev,h1,h2,h3⟩=>by
    simp only at h2
    rw [hc] at h2
    rcases h2 with ⟨h2,_⟩ | ⟨_,op,ops,hl,h2⟩
    ·exact absurd h2 her
    ·obtain ⟨t,u,rfl⟩:=qct h2
     exact ⟨⟨op,ops,t,u,hl,h1,h2⟩,h3⟩
   have HC0:=hI her
   clear her HDN hc
   go_wp2_with fail
   refine HD0.out.mono ?_
   rintro _ _ ⟨⟨op,ops,t,u,hl,rfl,hch⟩,rfl⟩
   have HW:=hI (qur qdn (op :: ops) (c:Int) (.iface t u) w5 hch)
   have HLN:=hI hl
   clear HD0 hch hl cB
   go_wp2_with fail
   refine HW.out.mono ?_
   rintro _ w7 ⟨v,rfl,hch,hb7⟩
   have HR1:=hI ((hb7.block _ (qaa R5.out)).trans R5.out)
   have HB1:=hI (qac BW5.out hb7)
   have HCH:=hI hch
   clear hb7 hch HW
   have x1:=qav HR1.out (qde _)
   go_wp2
   refine bodyPost_ret (qbm rfl rfl (setRow_heap _ _ _ _ _ _ HR1.out) rfl) rfl ?_
   have hgr:=qbu w7 w.heap.size (encP (default:RP)).toArray
   exact ⟨default,c,v,rfl,Or.inl ⟨by rw [HTK.out];exact HC0.out,HTK.out.symm,rfl⟩,qcq _,Or.inr ⟨HC0.out,op :: ops,by have:=HLN.out;simp;omega,HCH.out.apart HR1.out (by decide) (fun i h1 h2=>hgr.block i h1 (by intro e;injection e with e;exact h2 e))⟩,qca HB1.out hgr (Nat.le_refl _)⟩
end Go.Proofs.YtnmojicfmcbgmaaGreatDoor
namespace Go.Proofs.YtnmojicfmcbgmaaGreatDoor
open Go.RowKit Go.Sort Go.Lib Nb
set_option maxRecDepth 100000
def M31:RepT:=((3,[1,1,0,0,0,0,0,0,0]),([],([],(List.replicate 3 (0,([],[])),(List.replicate 3 (List.replicate 3 [0]),(List.replicate 3 [0],(List.replicate 3 [],([],[]))))))))
theorem new_M {r:RP} (h:NewR 3 1 1 3 r):repM r=M31∧NN r:=by
 obtain ⟨n0,n1,n2,n3,n4,n5,n6,n7,n8,n9⟩:=h.h
 have hk:r.k.z.toList.map knM=List.replicate 3 (0,([],[])):=by
  refine List.eq_replicate_iff.2 ⟨by simpa using h.k.1,fun b hb=>?_⟩
  obtain ⟨x,hx,rfl⟩:=List.mem_map.1 hb
  obtain ⟨i,hi,rfl⟩:=qdg hx
  have:=h.k.2 i (by rw [←h.k.1];exact hi)
  have e1:r.k.z[i]!.base=0:=congrArg KN.base this
  have e2:r.k.z[i]!.r.z=#[]:=congrArg KN.rs this
  have e3:r.k.z[i]!.a.z=#[]:=congrArg KN.ats this
  unfold knM
  rw [e1,e2,e3]
  rfl
 have hm:r.m.z.toList.map (fun x=>intM x.z)=List.replicate 3 (List.replicate 3 [0]):=by
  refine List.eq_replicate_iff.2 ⟨by simpa using h.m.1,fun b hb=>?_⟩
  obtain ⟨x,hx,rfl⟩:=List.mem_map.1 hb
  obtain ⟨i,hi,rfl⟩:=qdg hx
  rw [h.m.2 i (by rw [←h.m.1];exact hi)]
  rfl
 have hd:r.d.z.toList.map (fun x=>qbg x.z)=List.replicate 3 []:=by
  refine List.eq_replicate_iff.2 ⟨by simpa using h.d.1,fun b hb=>?_⟩
  obtain ⟨x,hx,rfl⟩:=List.mem_map.1 hb
  obtain ⟨i,hi,rfl⟩:=qdg hx
  rw [h.d.2 i (by rw [←h.d.1];exact hi)]
  rfl
 constructor
 ·unfold repM qpg
  rw [hk,hm,hd,h.e,h.o,h.fr,h.it,h.ss,n0,n1,n2,n3,n4,n5,n6,n7,n8,n9]
  rfl
 ·refine ⟨⟨by omega,by omega,by omega,by omega,by omega,by omega,by omega,by omega,by omega,by omega⟩,?_,?_,?_,?_,?_,?_,?_,?_⟩
  ·rw [h.e];intro x hx;simp at hx
  ·rw [h.o];intro x hx;simp at hx
  ·intro x hx
   obtain ⟨i,hi,rfl⟩:=qdg hx
   have:=h.k.2 i (by rw [←h.k.1];exact hi)
   have e1:r.k.z[i]!.base=0:=congrArg KN.base this
   have e2:r.k.z[i]!.r.z=#[]:=congrArg KN.rs this
   have e3:r.k.z[i]!.a.z=#[]:=congrArg KN.ats this
   refine ⟨by omega,?_,?_⟩
   ·rw [e2];intro x hx;simp at hx
   ·rw [e3];intro x hx;simp at hx
  ·intro x hx
   obtain ⟨i,hi,rfl⟩:=qdg hx
   rw [h.m.2 i (by rw [←h.m.1];exact hi)]
   intro y hy
   simp at hy
   omega
  ·rw [h.fr];intro y hy;simp at hy;omega
  ·intro x hx
   obtain ⟨i,hi,rfl⟩:=qdg hx
   rw [h.d.2 i (by rw [←h.d.1];exact hi)]
   intro y hy
   simp at hy
  ·rw [h.it];intro x hx;simp at hx
  ·rw [h.ss];intro x hx;simp at hx
def rp31:RP:=⟨3,1,1,0,0,0,0,⟨none,0,#[]⟩,⟨none,0,#[]⟩,⟨none,0,#[ke0,ke0,ke0]⟩,⟨none,0,#[⟨none,0,#[0,0,0]⟩,⟨none,0,#[0,0,0]⟩,⟨none,0,#[0,0,0]⟩]⟩,⟨none,0,#[0,0,0]⟩,⟨none,0,#[⟨none,0,#[]⟩,⟨none,0,#[]⟩,⟨none,0,#[]⟩]⟩,0,0,0,⟨none,0,#[]⟩,⟨none,0,#[]⟩⟩
theorem quy:NewR 3 1 1 3 rp31 :=
 ⟨⟨rfl,rfl,rfl,rfl,rfl,rfl,rfl,rfl,rfl,rfl⟩,rfl,rfl,⟨rfl,fun i hi=>by match i,hi with | 0,_=>rfl | 1,_=>rfl | 2,_=>rfl⟩,⟨rfl,fun i hi=>by match i,hi with | 0,_=>rfl | 1,_=>rfl | 2,_=>rfl⟩,rfl,⟨rfl,fun i hi=>by match i,hi with | 0,_=>rfl | 1,_=>rfl | 2,_=>rfl⟩,rfl,rfl⟩
theorem rp31_chk:chkW rp31=true:=by decide +kernel
theorem M31_len:(repC.b M31).length=42:=by decide +kernel
theorem def_chk:chkW (default:RP)=false:=by decide +kernel
theorem new_chk {r:RP} (h:NewR 3 1 1 3 r):chkW r=true:=by
 rw [qiq (qga ((new_M h).1.trans (new_M quy).1.symm) (new_M h).2 (new_M quy).2)]
 exact rp31_chk
theorem new_wide {r:RP} (h:NewR 3 1 1 3 r):qed r=false:=by
 unfold qed
 simp only [Bool.or_eq_false_iff,decide_eq_false_iff_not,qfz]
 refine ⟨by rw [h.o];simp,fun i hi=>?_,fun i hi=>?_⟩
 ·have:=h.k.2 i (by rw [←h.k.1];exact hi)
  have e2:r.k.z[i]!.r.z=#[]:=congrArg KN.rs this
  have e3:r.k.z[i]!.a.z=#[]:=congrArg KN.ats this
  rw [e2,e3]
  simp
 ·rw [h.d.2 i (by rw [←h.d.1];exact hi)]
  simp
theorem new_len {r:RP} (h:NewR 3 1 1 3 r):(qbs r).length=42:=by rw [qip,(new_M h).1];exact M31_len
theorem new_put {r:RP} (h:NewR 3 1 1 3 r):putE r=0:=by
 unfold putE
 rw [if_pos (new_chk h),new_wide h,if_neg Bool.false_ne_true,new_len h,if_neg (by decide)]
theorem qgr:FewC (default:RP):=by
 refine ⟨?_,?_,?_,?_,?_,?_,?_,?_,?_,?_⟩
 ·decide
 ·intro i hi;exact absurd hi (by simp [show (default:RP).e.z=#[] from rfl])
 ·decide
 ·decide
 ·decide
 ·intro i hi;exact absurd hi (by simp [show (default:RP).m.z=#[] from rfl])
 ·decide
 ·decide
 ·intro i hi;exact absurd hi (by simp [show (default:RP).d.z=#[] from rfl])
 ·intro i hi;exact absurd hi (by simp [show (default:RP).k.z=#[] from rfl])
theorem qsl:putE (default:RP)=2:=by unfold putE;rw [def_chk];rfl
theorem take_put {r:RP} (hp:putE r=0) {R:RP} {c:Nat} (h:TkO (qbs r) R c):c=0∧qkb R r=true∧chkW R=true∧repC.ok (repM R)∧NN R:=by
 unfold putE at hp
 split at hp
 ·rename_i hc
  split at hp
  ·cases hp
  ·rename_i hw
   split at hp
   ·cases hp
   ·rename_i hl
    obtain ⟨hok,hnn⟩:=rep_ok hc (by simpa using hw)
    rw [qip] at h hl
    have h1:=tk_all (by omega) hok
    have h2:rd0 (repC.b (repM r))=(⟨⟨(repC.b (repM r)).length,0⟩,false⟩,repM r):=qsk (t:=[]) (by simp) hok
    rcases h with ⟨h3,_⟩ | ⟨_,_,_,x,hx,nx,cx⟩ | ⟨_,h4,hx,nx,cx⟩
    ·exact absurd h1 h3
    ·rw [h2] at hx
     have:=qiq (qga hx nx hnn)
     rw [cx,hc] at this
     cases this
    ·rw [h2] at hx
     have hx':repM R=repM r:=hx
     exact ⟨h4,qga hx' nx hnn,cx,by rw [hx'];exact hok,nx⟩
 ·cases hp
theorem sbx {l:List UInt8} {x:UInt8}:((⟨l.toArray⟩:ByteArray) ++ (⟨#[x]⟩:ByteArray)).data.toList=l ++ [x]:=by
 rw [ByteArray.data_append]
 simp
theorem take_rest {r:RP} (hp:putE r=0) {x:UInt8} (hl:(qbs r).length < 18000) {R:RP} {c:Nat} (h:TkO (qbs r ++ [x]) R c):c=6:=by
 unfold putE at hp
 split at hp
 ·rename_i hc
  split at hp
  ·cases hp
  ·rename_i hw
   obtain ⟨hok,hnn⟩:=rep_ok hc (by simpa using hw)
   rw [qip] at h hl
   have h2:rd0 (repC.b (repM r) ++ [x])=(⟨⟨(repC.b (repM r)).length,0⟩,false⟩,repM r):=qsk rfl hok
   have h3:tkE (repC.b (repM r) ++ [x])=6:=by
    unfold tkE
    have h4:endR (repC.b (repM r) ++ [x]) (rd0 (repC.b (repM r) ++ [x])).1.r=⟨(repC.b (repM r)).length,6⟩:=by
     rw [h2]
     unfold endR
     rw [if_pos ⟨rfl,by simp⟩]
    rw [if_neg (by simp;omega),h4,if_pos (show (6:Nat)≠0 by decide)]
   rcases h with ⟨_,h4,_⟩ | ⟨h4,_⟩ | ⟨h4,_⟩
   ·rw [h4,h3]
   ·rw [h3] at h4;cases h4
   ·rw [h3] at h4;cases h4
 ·cases hp
end Go.Proofs.YtnmojicfmcbgmaaGreatDoor
namespace Go.Proofs.YtnmojicfmcbgmaaGreatDoor
open Go.RowKit Go.Sort Go.Lib Nb
set_option maxRecDepth 100000
attribute [local go_sem ↓] qbc qba
attribute [local go_sem] qbt qci
set_option maxHeartbeats 1000000 in
theorem qju (r:RP) (w:World) (h:RdP w r) (hf:FewC r) :
 Calls Tryz.prog 13 #[.agg (encP r).toArray] w fun e w'=>e=.returned (.int .i64 (if putE r=0 then ((qbs r).length:Int) else 0))∧Below w.heap.size w w':=by
 have HP:Hid (∀ W,Below w.heap.size w W→Calls Tryz.prog 8 #[.agg (encP r).toArray] W fun e w'=>PutP r e w'∧Below W.heap.size W w'):=fun W hb=>qis r W (h.below hb) hf
 obtain ⟨cs,hcs⟩:∃ cs,cs=(encP r).toArray:=⟨_,rfl⟩
 have HI:cs.size=18:=by rw [hcs];rfl
 rw [←hcs] at HP
 have HCS:=hI hcs
 clear h hf
 have hgoal:∀ y:Array Value,cs=y→Calls Tryz.prog 13 #[.agg y] w fun e w'=>e=.returned (.int .i64 (if putE r=0 then ((qbs r).length:Int) else 0))∧Below w.heap.size w w':=by
  rintro _ rfl
  simp only [encP] at hcs
  have HX:=hI (BoxR.init w cs 35)
  have x1:=HX.out.box HI
  have x2:=HX.out.rowAt
  have HB0:=hI (HX.out.b)
  have HP1:=hI (HP.out _ HX.out.b)
  clear hcs
  go_enter Tryz.func13,Tryz.ntmps13
  go_wp2_with fail
  refine HP1.out.mono ?_
  rintro _ w2 ⟨hp,hb⟩
  have HB2:=hI (qac HB0.out hb)
  clear hb
  rcases hp with ⟨h0,rfl⟩ | ⟨h0,v,rfl,hch⟩
  ·have HE:=hI h0
   obtain ⟨y,hy⟩:∃ y:ByteArray,(⟨(qbs r).toArray⟩:ByteArray)=y:=⟨_,rfl⟩
   have hys:(y.size:Int)=((qbs r).length:Int):=by rw [←hy,qdv]
   have HYS:=hI hys
   rw [hy]
   clear hy hys h0
   go_wp2
   go_ret
   exact ⟨by rw [←HYS.out];rfl,HB2.out⟩
  ·have HE:=hI h0
   clear h0 hch
   go_wp2
   go_ret
   exact ⟨rfl,HB2.out⟩
 exact hgoal _ HCS.out
structure DPHa (w0:World) (b off k:Nat) (x:Int×Int) (w':World):Prop where
 bl:Below w0.heap.size w0 w'
 a:w'.cell? ⟨b,off + k * 2,none⟩=some (.int .i64 x.1)
 c:w'.cell? ⟨b,off + k * 2 + 1,none⟩=some (.int .i64 x.2)
theorem qgs {w0 w':World} {b off k:Nat} {x:Int×Int} (h:b < w0.heap.size∧DPHa w0 b off k x w0) (hb:Below w0.heap.size w0 w') :
 Below w0.heap.size w0 w'∧w'.cell? ⟨b,off + k * 2,none⟩=some (.int .i64 x.1)∧w'.cell? ⟨b,off + k * 2 + 1,none⟩=some (.int .i64 x.2) :=
 ⟨hb,(hb.cell (p:=⟨b,off + k * 2,none⟩) h.1).trans h.2.a,(hb.cell (p:=⟨b,off + k * 2 + 1,none⟩) h.1).trans h.2.c⟩
set_option maxHeartbeats 8000000 in
theorem qqh (A:Option Addr) (c:Nat) (d:Array (Int×Int)) (w:World) (hr:RdK qbe 2 w.heap.size w A d) (hs:d.size≤1000) :
 Calls Tryz.prog 35 #[.slice A d.size c] w fun e w'=>∃ A2 c2,e=.returned (.slice A2 (d.size * 2) c2)∧RdI w'.heap.size w' A2 (d.toList.flatMap celA).toArray∧Below w.heap.size w w':=by
 obtain ⟨i0,hi0,hz0,hz1,hz2⟩:=info_parts qfg
 have HR:=hI hr
 clear hr
 go_enter Tryz.func35,Tryz.ntmps35
 go_wp2
 go_loopw [3,4] (fun v i wr=>∃ (k:Nat) (xs:List Int),i=.int .i64 k∧k≤d.size∧Hid (xs=(d.toList.take k).flatMap celA)∧wr.ownsRow w.heap.size 3 1 v xs.length (xs.map (Value.int .i64))∧Hid (Below w.heap.size w wr)) (fun _ i _=>d.size - (intOf i).toNat)
 case atStart=>exact ⟨0,[],rfl,Nat.zero_le _,hI (by simp),World.ownsRow_nil _ _ _ _,hI (Below.refl _ _)⟩
 case round =>
  obtain ⟨k,xs,rfl,hk,HX,hown,HB⟩:=hrel
  by_cases hlt:k < d.size
  ·have kz:(k:Int) < (d.size:Int):=by omega
   have k0:(0:Int)≤(k:Int):=by omega
   have HS:Hid ((d.toList.take (k + 1)).flatMap celA=xs ++ celA d[k]!):=by show _=_;rw [qbi _ _ hlt,←HX.out]
   have hxl:xs.length≤2000:=by rw [HX.out,qgv d k hk];omega
   obtain ⟨b,off,rfl,hbl,f⟩:=HR.out.at_ (i:=k) (by omega)
   obtain ⟨x,hx⟩:∃ x,d[k]! = x:=⟨_,rfl⟩
   rw [hx] at f HS
   have e0:=f 0 (by omega)
   have e1:=f 1 (by omega)
   clear hx f
   simp only [Nat.add_zero,qbe,List.getElem!_cons_zero,List.getElem!_cons_succ] at e0 e1
   have HK:Hid (b < w.heap.size∧DPHa w b off k x w):=⟨hbl,Below.refl _ _,e0,e1⟩
   obtain ⟨q0,q1,q2⟩:=qgs HK.out HB.out
   have HO:=hI hown
   have HLT:=hI (fun (t:Nat) ht=>(hown.lt t ht).2)
   have hBr2:Below w.heap.size w wr:=HB.out
   clear hown e0 e1 q0
   go_wp2_with fail
   go_region_held3 (fun w'=>Below w.heap.size w w'∧w'.cell? ⟨b,off + k * 2,none⟩=some (.int .i64 x.1)∧w'.cell? ⟨b,off + k * 2 + 1,none⟩=some (.int .i64 x.2)) (first | assumption | exact qgs HK.out (by assumption) | exact qgs HK.out (And.left (by assumption)) | exact qgs HK.out (Below.drew (by assumption)) | exact qgs HK.out (Below.drew (And.left (by assumption))) | exact qgs HK.out (qad (by assumption) _) | exact qgs HK.out (qad (And.left (by assumption)) _) | exact qgs HK.out (qad (by assumption) _).drew | exact qgs HK.out (qad (And.left (by assumption)) _).drew | exact qgs HK.out (qad (Below.drew (by assumption)) _) | exact qgs HK.out (qad (Below.drew (And.left (by assumption))) _))
    (first
      | (refine qdb (by rfl) _ _ _ (by rfl) w 3 i0 _ 1 8 Tryz.underlying26 hi0 hz0 hz1 hz2 rfl (by decide) _ xs.length (xs.map (Value.int .i64)) (by rfl) (by first | exact (HO.out.alloc _).drew | exact ((HO.out.alloc _).alloc _).drew) _ 1 1 [.int .i64 x.1] (by rfl) (by rfl) (by first | exact qei (hA1 wr _) | exact qei (hA2 wr _ _) | exact qei (hA3 wr _ _)) (qoe _) (by unfold maxLen;omega) (by omega) (by first | assumption | exact And.left (by assumption)) ?_;intro v1 w5 hown1 hgrow1 hBw1)
      | ((refine qdb (by rfl) _ _ _ (by rfl) w 3 i0 _ 1 8 Tryz.underlying26 hi0 hz0 hz1 hz2 rfl (by decide) v1 (xs.length + 1) (xs.map (Value.int .i64) ++ [.int .i64 x.1]) (by rfl) (by first | exact hown1 | exact (hown1.alloc _).drew | exact hown1.alloc _) _ 1 1 [.int .i64 x.2] (by rfl) (by rfl) (by first | exact farB_D HLT.out hgrow1 | exact farC_D HLT.out hgrow1 | exact qei (hA1 w5 _) | exact qei (qah w5 _)) (qoe _) (by unfold maxLen;omega) (by omega) (by first | assumption | exact And.left (by assumption)) ?_;intro v2 w6 hown2 hgrow2 hBw2)))
   all_goals
    go_wp2
    go_roundw
    case rel=>exact ⟨k + 1,xs ++ celA x,by go_num,by omega,hI HS.out.symm,by simpa [celA] using hown2,hI hBw2⟩
    case measure=>simp [intOf];omega
  ·have hlt':decide ((k:Int) < (d.size:Int))=false:=decide_eq_false (by omega)
   have hkd:k=d.size:=by omega
   have hxs:xs=d.toList.flatMap celA:=by rw [HX.out,hkd,List.take_of_length_le (by simp)]
   have hsz:=qgv d k hk
   rw [←HX.out,hkd] at hsz
   obtain ⟨A2,c2,rfl,hrd⟩:=qdm hown
   have HF:Hid (RdI wr.heap.size wr A2 (d.toList.flatMap celA).toArray):=by rw [←hxs];exact hrd
   have HSZ:=hI hsz
   clear hxs hrd hown hsz HX
   go_wp2
   go_ret
   exact ⟨A2,c2,by rw [HSZ.out];rfl,HF.out,HB.out⟩
structure DPHs (w0:World) (b off k:Nat) (x:Int×Int) (w':World):Prop where
 bl:Below w0.heap.size w0 w'
 a:w'.cell? ⟨b,off + k * 2,none⟩=some (.int .i64 x.1)
 c:w'.cell? ⟨b,off + k * 2 + 1,none⟩=some (.int .i64 x.2)
theorem qgt {w0 w':World} {b off k:Nat} {x:Int×Int} (h:b < w0.heap.size∧DPHs w0 b off k x w0) (hb:Below w0.heap.size w0 w') :
 Below w0.heap.size w0 w'∧w'.cell? ⟨b,off + k * 2,none⟩=some (.int .i64 x.1)∧w'.cell? ⟨b,off + k * 2 + 1,none⟩=some (.int .i64 x.2) :=
 ⟨hb,(hb.cell (p:=⟨b,off + k * 2,none⟩) h.1).trans h.2.a,(hb.cell (p:=⟨b,off + k * 2 + 1,none⟩) h.1).trans h.2.c⟩
set_option maxHeartbeats 8000000 in
theorem qnc (A:Option Addr) (c:Nat) (d:Array (Int×Int)) (w:World) (hr:RdK encR 2 w.heap.size w A d) (hs:d.size≤1000) :
 Calls Tryz.prog 36 #[.slice A d.size c] w fun e w'=>∃ A2 c2,e=.returned (.slice A2 (d.size * 2) c2)∧RdI w'.heap.size w' A2 (d.toList.flatMap celR).toArray∧Below w.heap.size w w':=by
 obtain ⟨i0,hi0,hz0,hz1,hz2⟩:=info_parts qfg
 have HR:=hI hr
 clear hr
 go_enter Tryz.func36,Tryz.ntmps36
 go_wp2
 go_loopw [3,4] (fun v i wr=>∃ (k:Nat) (xs:List Int),i=.int .i64 k∧k≤d.size∧Hid (xs=(d.toList.take k).flatMap celR)∧wr.ownsRow w.heap.size 3 1 v xs.length (xs.map (Value.int .i64))∧Hid (Below w.heap.size w wr)) (fun _ i _=>d.size - (intOf i).toNat)
 case atStart=>exact ⟨0,[],rfl,Nat.zero_le _,hI (by simp),World.ownsRow_nil _ _ _ _,hI (Below.refl _ _)⟩
 case round =>
  obtain ⟨k,xs,rfl,hk,HX,hown,HB⟩:=hrel
  by_cases hlt:k < d.size
  ·have kz:(k:Int) < (d.size:Int):=by omega
   have k0:(0:Int)≤(k:Int):=by omega
   have HS:Hid ((d.toList.take (k + 1)).flatMap celR=xs ++ celR d[k]!):=by show _=_;rw [qbi _ _ hlt,←HX.out]
   have hxl:xs.length≤2000:=by rw [HX.out,qgw d k hk];omega
   obtain ⟨b,off,rfl,hbl,f⟩:=HR.out.at_ (i:=k) (by omega)
   obtain ⟨x,hx⟩:∃ x,d[k]! = x:=⟨_,rfl⟩
   rw [hx] at f HS
   have e0:=f 0 (by omega)
   have e1:=f 1 (by omega)
   clear hx f
   simp only [Nat.add_zero,encR,List.getElem!_cons_zero,List.getElem!_cons_succ] at e0 e1
   have HK:Hid (b < w.heap.size∧DPHs w b off k x w):=⟨hbl,Below.refl _ _,e0,e1⟩
   obtain ⟨q0,q1,q2⟩:=qgt HK.out HB.out
   have HO:=hI hown
   have HLT:=hI (fun (t:Nat) ht=>(hown.lt t ht).2)
   have hBr2:Below w.heap.size w wr:=HB.out
   clear hown e0 e1 q0
   go_wp2_with fail
   go_region_held3 (fun w'=>Below w.heap.size w w'∧w'.cell? ⟨b,off + k * 2,none⟩=some (.int .i64 x.1)∧w'.cell? ⟨b,off + k * 2 + 1,none⟩=some (.int .i64 x.2)) (first | assumption | exact qgt HK.out (by assumption) | exact qgt HK.out (And.left (by assumption)) | exact qgt HK.out (Below.drew (by assumption)) | exact qgt HK.out (Below.drew (And.left (by assumption))) | exact qgt HK.out (qad (by assumption) _) | exact qgt HK.out (qad (And.left (by assumption)) _) | exact qgt HK.out (qad (by assumption) _).drew | exact qgt HK.out (qad (And.left (by assumption)) _).drew | exact qgt HK.out (qad (Below.drew (by assumption)) _) | exact qgt HK.out (qad (Below.drew (And.left (by assumption))) _))
    (first
      | (refine qdb (by rfl) _ _ _ (by rfl) w 3 i0 _ 1 8 Tryz.underlying26 hi0 hz0 hz1 hz2 rfl (by decide) _ xs.length (xs.map (Value.int .i64)) (by rfl) (by first | exact (HO.out.alloc _).drew | exact ((HO.out.alloc _).alloc _).drew) _ 1 1 [.int .i64 x.1] (by rfl) (by rfl) (by first | exact qei (hA1 wr _) | exact qei (hA2 wr _ _) | exact qei (hA3 wr _ _)) (qoe _) (by unfold maxLen;omega) (by omega) (by first | assumption | exact And.left (by assumption)) ?_;intro v1 w5 hown1 hgrow1 hBw1)
      | ((refine qdb (by rfl) _ _ _ (by rfl) w 3 i0 _ 1 8 Tryz.underlying26 hi0 hz0 hz1 hz2 rfl (by decide) v1 (xs.length + 1) (xs.map (Value.int .i64) ++ [.int .i64 x.1]) (by rfl) (by first | exact hown1 | exact (hown1.alloc _).drew | exact hown1.alloc _) _ 1 1 [.int .i64 x.2] (by rfl) (by rfl) (by first | exact farB_D HLT.out hgrow1 | exact farC_D HLT.out hgrow1 | exact qei (hA1 w5 _) | exact qei (qah w5 _)) (qoe _) (by unfold maxLen;omega) (by omega) (by first | assumption | exact And.left (by assumption)) ?_;intro v2 w6 hown2 hgrow2 hBw2)))
   all_goals
    go_wp2
    go_roundw
    case rel=>exact ⟨k + 1,xs ++ celR x,by go_num,by omega,hI HS.out.symm,by simpa [celR] using hown2,hI hBw2⟩
    case measure=>simp [intOf];omega
  ·have hlt':decide ((k:Int) < (d.size:Int))=false:=decide_eq_false (by omega)
   have hkd:k=d.size:=by omega
   have hxs:xs=d.toList.flatMap celR:=by rw [HX.out,hkd,List.take_of_length_le (by simp)]
   have hsz:=qgw d k hk
   rw [←HX.out,hkd] at hsz
   obtain ⟨A2,c2,rfl,hrd⟩:=qdm hown
   have HF:Hid (RdI wr.heap.size wr A2 (d.toList.flatMap celR).toArray):=by rw [←hxs];exact hrd
   have HSZ:=hI hsz
   clear hxs hrd hown hsz HX
   go_wp2
   go_ret
   exact ⟨A2,c2,by rw [HSZ.out];rfl,HF.out,HB.out⟩
end Go.Proofs.YtnmojicfmcbgmaaGreatDoor
