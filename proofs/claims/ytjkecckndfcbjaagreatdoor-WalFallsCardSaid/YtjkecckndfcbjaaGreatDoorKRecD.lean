/- Texts that the law leans on. -/
import Derived.Test.YtjkecckndfcbjaaGreatDoorKRdr
import Derived.Test.YtjkecckndfcbjaaGreatDoorKRecA
import Derived.Test.YtjkecckndfcbjaaGreatDoorKMsgR
import Derived.Test.YtjkecckndfcbjaaGreatDoorKDocX
namespace Go.Proofs.YtjkecckndfcbjaaGreatDoor
open Go.RowKit Go.Sort Nb
theorem qjy {w:World} {g:Nat} {y0 y1 y2 y3 y4 y5:Value} {T:TypeId} (h:w.heap[g]?=some (.cells #[y0,y1,y2,y3,y4,y5] T (0,0))) (z0 z1 z2 z3 z4 z5:Value) :
 ((((((w.setCell ⟨g,0,none⟩ z0).setCell ⟨g,1,none⟩ z1).setCell ⟨g,2,none⟩ z2).setCell ⟨g,3,none⟩ z3).setCell ⟨g,4,none⟩ z4).setCell ⟨g,5,none⟩ z5).heap[g]?=some (.cells #[z0,z1,z2,z3,z4,z5] T (0,0)):=by
 rw [qae (qae (qae (qae (qae (qae h 0 z0) 1 z1) 2 z2) 3 z3) 4 z4) 5 z5];rfl
theorem same6 (a:World) (g:Nat) (z0 z1 z2 z3 z4 z5:Value):a.grownBy ((((((a.setCell ⟨g,0,none⟩ z0).setCell ⟨g,1,none⟩ z1).setCell ⟨g,2,none⟩ z2).setCell ⟨g,3,none⟩ z3).setCell ⟨g,4,none⟩ z4).setCell ⟨g,5,none⟩ z5) (some g) :=
 qag (qag (qag (qag (qag (qag (World.grownBy.refl a (some g)) (p:=⟨g,0,none⟩) rfl z0) (p:=⟨g,1,none⟩) rfl z1) (p:=⟨g,2,none⟩) rfl z2) (p:=⟨g,3,none⟩) rfl z3) (p:=⟨g,4,none⟩) rfl z4) (p:=⟨g,5,none⟩) rfl z5
theorem bel6 {w a:World} {g:Nat} (h:Below w.heap.size w a) (hg:w.heap.size≤g) (z0 z1 z2 z3 z4 z5:Value):Below w.heap.size w ((((((a.setCell ⟨g,0,none⟩ z0).setCell ⟨g,1,none⟩ z1).setCell ⟨g,2,none⟩ z2).setCell ⟨g,3,none⟩ z3).setCell ⟨g,4,none⟩ z4).setCell ⟨g,5,none⟩ z5) :=
 qaq h (same6 a g z0 z1 z2 z3 z4 z5) hg
theorem qbl {w:World} {g:Nat} {z0 z1 z2 z3 z4 z5:Value} {T:TypeId} (h:w.heap[g]?=some (.cells #[z0,z1,z2,z3,z4,z5] T (0,0))) :
 (w.cell? ⟨g,0,none⟩=some z0∧w.cell? ⟨g,1,none⟩=some z1∧w.cell? ⟨g,2,none⟩=some z2∧w.cell? ⟨g,3,none⟩=some z3∧w.cell? ⟨g,4,none⟩=some z4∧w.cell? ⟨g,5,none⟩=some z5) ∧
 (w.frozen? ⟨g,0,none⟩=false∧w.frozen? ⟨g,1,none⟩=false∧w.frozen? ⟨g,2,none⟩=false∧w.frozen? ⟨g,3,none⟩=false∧w.frozen? ⟨g,4,none⟩=false∧w.frozen? ⟨g,5,none⟩=false) :=
 ⟨⟨by rw [qad h];rfl,by rw [qad h];rfl,by rw [qad h];rfl,by rw [qad h];rfl,by rw [qad h];rfl,by rw [qad h];rfl⟩,Lib.frozen_of_heap h 0,Lib.frozen_of_heap h 1,Lib.frozen_of_heap h 2,Lib.frozen_of_heap h 3,Lib.frozen_of_heap h 4,Lib.frozen_of_heap h 5⟩
theorem qea (a b:Int) (s:Bool) (k:Int) (d t:ByteArray):qmb #[.int .i64 a,.int .i64 b,.bool s,.int .i64 k,.string d,.string t]:=by
 intro o op t x h1 h2
 match o,h1,h2 with
 | 0,h1,_=>simp at h1
 | 1,h1,_=>simp at h1
 | 2,h1,_=>simp at h1
 | 3,h1,_=>simp at h1
 | 4,_,h2=>simp at h2
 | 5,_,h2=>simp at h2
 | o + 6,h1,_=>simp at h1
def RTakeP (s:ByteArray) (e:Ending) (w':World):Prop:=∃ r v ops,e=.returned (.tuple #[recV r,v])∧ErrV w' ops (rtC s.data.toList:Int) v∧ops.length≤10∧(rtC s.data.toList≠0→qgz ∈ ops∧r=zR)∧(rtC s.data.toList=0→r=recO s.data.toList)
theorem rtC_e {l:List UInt8} (h:(recR l).e≠0):rtC l=(recR l).e:=by unfold rtC;rw [if_pos h]
theorem rtC_chk {l:List UInt8} (h:(recR l).e=0):rtC l=recC (recO l):=by unfold rtC;rw [if_neg (by omega)]
set_option maxRecDepth 100000 in
set_option maxHeartbeats 8000000 in
theorem qyp (s:ByteArray) (w:World) (hg:Glob w) (hs:s.size≤1000000) :
 Calls Tryz.prog 66 #[.string s] w fun e w'=>RTakeP s e w'∧Below w.heap.size w w':=by
 have HRN:=hI (fun W=>qwo s W)
 have HDN:=hI (fun (b:Nat) (r:RS) (W:World) (h:Rdr b s r W)=>qry b s r W h)
 have HEN:=hI (fun (b:Nat) (r:RS) (W:World) (h:Rdr b s r W) (hg:Glob W)=>qwq b s r W h hg)
 have HCK:=hI (fun (r:PR) (W:World) (hg:Glob W) (hd:r.dt.size≤1000000)=>qmj r W hg hd)
 have HRA:Hid (recA s.data.toList=numR s.data.toList 1000000 ⟨0,0⟩):=rfl
 have HRQ:Hid (recQ s.data.toList=numR s.data.toList 1000000 (recA s.data.toList).1):=rfl
 have HRF:Hid (recF s.data.toList=qdx s.data.toList (recQ s.data.toList).1):=rfl
 have HRS:Hid (recS s.data.toList=qcd s.data.toList 18000 (recF s.data.toList).1):=rfl
 have HRK:Hid (recK s.data.toList=numR s.data.toList 9 (recF s.data.toList).1):=rfl
 have HRD:Hid (recD s.data.toList=qcd s.data.toList 5000 (recK s.data.toList).1):=rfl
 have HRR:Hid (recR s.data.toList=if (recF s.data.toList).2 then endR s.data.toList (recS s.data.toList).1 else endR s.data.toList (recD s.data.toList).1):=rfl
 have HRO:Hid (recO s.data.toList=if (recF s.data.toList).2 then ⟨(recA s.data.toList).2,(recQ s.data.toList).2,true,0,⟨#[]⟩,⟨(recS s.data.toList).2.toArray⟩⟩ else ⟨(recA s.data.toList).2,(recQ s.data.toList).2,false,(recK s.data.toList).2,⟨(recD s.data.toList).2.toArray⟩,⟨#[]⟩⟩):=rfl
 have HTE:=hI (@rtC_e s.data.toList)
 have HTK:=hI (@rtC_chk s.data.toList)
 have hld:(recD s.data.toList).2.length≤5000:=qin s.data.toList 5000 (recK s.data.toList).1
 have HNM:Hid (∀ (b:Nat) (r r':RS) (n:Nat) (W:World),numR s.data.toList 1000000 r=(r',n)→Rdr b s r W→Glob W→Calls Tryz.prog 97 #[.pointer (some ⟨b,0,none⟩),.int .i64 1000000] W fun e w'=>e=.returned (.int .i64 (n:Int))∧RPost b s r' W w'):=fun b r r' n W hR h hg=>by
  have:=qpf b s r 1000000 W h hg hs
  rw [hR,show ((1000000:Nat):Int)=1000000 by omega] at this
  exact this
 have HNK:Hid (∀ (b:Nat) (r r':RS) (n:Nat) (W:World),numR s.data.toList 9 r=(r',n)→Rdr b s r W→Glob W→Calls Tryz.prog 97 #[.pointer (some ⟨b,0,none⟩),.int .i64 9] W fun e w'=>e=.returned (.int .i64 (n:Int))∧RPost b s r' W w'):=fun b r r' n W hR h hg=>by
  have:=qpf b s r 9 W h hg hs
  rw [hR,show ((9:Nat):Int)=9 by omega] at this
  exact this
 have HTS:Hid (∀ (b:Nat) (r r':RS) (n:List UInt8) (W:World),qcd s.data.toList 18000 r=(r',n)→Rdr b s r W→Glob W→Calls Tryz.prog 98 #[.pointer (some ⟨b,0,none⟩),.int .i64 18000] W fun e w'=>e=.returned (.string ⟨n.toArray⟩)∧RPost b s r' W w'):=fun b r r' n W hR h hg=>by
  have:=qmi b s r 18000 W h hg hs
  rw [hR,show ((18000:Nat):Int)=18000 by omega] at this
  exact this
 have HTD:Hid (∀ (b:Nat) (r r':RS) (n:List UInt8) (W:World),qcd s.data.toList 5000 r=(r',n)→Rdr b s r W→Glob W→Calls Tryz.prog 98 #[.pointer (some ⟨b,0,none⟩),.int .i64 5000] W fun e w'=>e=.returned (.string ⟨n.toArray⟩)∧RPost b s r' W w'):=fun b r r' n W hR h hg=>by
  have:=qmi b s r 5000 W h hg hs
  rw [hR,show ((5000:Nat):Int)=5000 by omega] at this
  exact this
 have HFL:Hid (∀ (b:Nat) (r r':RS) (n:Bool) (W:World),qdx s.data.toList r=(r',n)→Rdr b s r W→Glob W→Calls Tryz.prog 99 #[.pointer (some ⟨b,0,none⟩)] W fun e w'=>e=.returned (.bool n)∧RPost b s r' W w'):=fun b r r' n W hR h hg=>by
  have:=RFlag_any b s r W h hg hs
  rw [hR] at this
  exact this
 have HG:=hI hg
 generalize recA s.data.toList=rA at HRA HRQ HRO
 generalize recQ s.data.toList=rQ at HRQ HRF HRO
 generalize recF s.data.toList=rF at HRF HRS HRK HRR HRO
 generalize recS s.data.toList=rS at HRS HRR HRO
 generalize recK s.data.toList=rK at HRK HRD HRO
 generalize recD s.data.toList=rD at HRD HRR HRO hld
 obtain ⟨r1,n1⟩:=rA
 obtain ⟨r2,n2⟩:=rQ
 obtain ⟨r3,sn⟩:=rF
 obtain ⟨r4,t4⟩:=rS
 obtain ⟨r5,n5⟩:=rK
 obtain ⟨r6,t6⟩:=rD
 dsimp only at HRQ HRF HRS HRK HRD HRR HRO hld
 have hgl:0 < w.heap.size:=qam hg
 clear hg hs
 go_enter Tryz.func66,Tryz.ntmps66
 go_wp2_with fail
 refine (HRN.out _).mono ?_
 rintro e w1 ⟨rfl,rfl⟩
 go_wp2_with fail
 refine (HNM.out (w.heap.size + 1) ⟨0,0⟩ r1 n1 _ HRA.out.symm (Rdr.new2 s w _) (HG.out.below (qab (bel1 w _) _))).mono ?_
 rintro e w2 ⟨rfl,hP2⟩
 have G2:=hI (Glob.rpost (HG.out.below (qab (bel1 w _) _)) (Rdr.new2 s w _) hP2)
 have B2:Hid (Below w.heap.size w w2):=qaq (qab (bel1 w _) _) hP2.2 (by omega)
 have R2:=hI hP2.1
 have Z2:=hI (qap ((Below.heap_alloc _ _ _ (by simp)).trans (qcq w (.cells #[.int .i64 0,.int .i64 0,.bool false,.int .i64 0,.string ⟨#[]⟩,.string ⟨#[]⟩] 128))) hP2.2 (by omega))
 clear hP2
 go_wp2_with fail
 refine (HNM.out (w.heap.size + 1) r1 r2 n2 _ HRQ.out.symm R2.out G2.out).mono ?_
 rintro e w3 ⟨rfl,hP3⟩
 have G3:=hI (Glob.rpost G2.out R2.out hP3)
 have B3:Hid (Below w.heap.size w w3):=qaq B2.out hP3.2 (by omega)
 have R3:=hI hP3.1
 have Z3:=hI (qap Z2.out hP3.2 (by omega))
 clear hP3
 go_wp2_with fail
 refine (HFL.out (w.heap.size + 1) r2 r3 sn _ HRF.out.symm R3.out G3.out).mono ?_
 rintro e w4 ⟨rfl,hP4⟩
 have G4:=hI (Glob.rpost G3.out R3.out hP4)
 have B4:Hid (Below w.heap.size w w4):=qaq B3.out hP4.2 (by omega)
 have R4:=hI hP4.1
 have Z4:=hI (qap Z3.out hP4.2 (by omega))
 have hz4:w.heap.size + 2≤w4.heap.size:=by have:=R4.out.lt;omega
 clear hP4
 cases sn
 ·rw [if_neg (by simp)] at HRR HRO
  go_wp2_with fail
  refine (HNK.out (w.heap.size + 1) r3 r5 n5 _ HRK.out.symm (R4.out.below (bel1 w4 _)) (G4.out.below (bel1 w4 _))).mono ?_
  rintro e w5 ⟨rfl,hP5⟩
  have G5:=hI (Glob.rpost (G4.out.below (bel1 w4 _)) (R4.out.below (bel1 w4 _)) hP5)
  have B5:Hid (Below w.heap.size w w5):=qaq (qab B4.out _) hP5.2 (by omega)
  have R5:=hI hP5.1
  have Z5:=hI (qap ((Below.heap_alloc _ _ _ (qaa Z4.out)).trans Z4.out) hP5.2 (by omega))
  have M5:=hI (qap (qcq w4 (.cells #[.int .i64 (n1:Int),.int .i64 (n2:Int),.bool false,.int .i64 0,.string ⟨#[]⟩,.string ⟨#[]⟩] 128)) hP5.2 (by omega))
  clear hP5
  go_wp2_with fail
  refine (HTD.out (w.heap.size + 1) r5 r6 t6 _ HRD.out.symm R5.out G5.out).mono ?_
  rintro e w6 ⟨rfl,hP6⟩
  have G6:=hI (Glob.rpost G5.out R5.out hP6)
  have B6:Hid (Below w.heap.size w w6):=qaq B5.out hP6.2 (by omega)
  have R6:=hI hP6.1
  have Z6:=hI (qap Z5.out hP6.2 (by omega))
  have M6:=hI (qap M5.out hP6.2 (by omega))
  clear hP6
  obtain ⟨⟨-,-,-,c3,c4,-⟩,-,-,-,f3,f4,-⟩:=qbl M6.out
  have z6:w4.heap.size < w6.heap.size:=qaa M6.out
  have hgs:=qag (qag (World.grownBy.refl w6 (some w4.heap.size)) (p:=⟨w4.heap.size,3,none⟩) rfl (.int .i64 (n5:Int))) (p:=⟨w4.heap.size,4,none⟩) rfl (.string ⟨t6.toArray⟩)
  have RSS:=hI (R6.out.grown M6.out (qea _ _ _ _ _ _) hgs (by omega))
  have GS:Hid (Glob ((w6.setCell ⟨w4.heap.size,3,none⟩ (.int .i64 (n5:Int))).setCell ⟨w4.heap.size,4,none⟩ (.string ⟨t6.toArray⟩))):=hgs.cell G6.out (by intro e;injection e with e;simp only at e;omega)
  have BS:Hid (Below w.heap.size w ((w6.setCell ⟨w4.heap.size,3,none⟩ (.int .i64 (n5:Int))).setCell ⟨w4.heap.size,4,none⟩ (.string ⟨t6.toArray⟩))):=qaq B6.out hgs (by omega)
  have ZS:=hI (qap Z6.out hgs (by omega))
  have MS:Hid (((w6.setCell ⟨w4.heap.size,3,none⟩ (.int .i64 (n5:Int))).setCell ⟨w4.heap.size,4,none⟩ (.string ⟨t6.toArray⟩)).heap[w4.heap.size]?=some (.cells #[.int .i64 (n1:Int),.int .i64 (n2:Int),.bool false,.int .i64 (n5:Int),.string ⟨t6.toArray⟩,.string ⟨#[]⟩] 128 (0,0))):=by show _=_;rw [qae (qae M6.out 3 (.int .i64 (n5:Int))) 4 (.string ⟨t6.toArray⟩)];rfl
  clear hgs
  go_wp2_with fail
  generalize ((w6.setCell ⟨w4.heap.size,3,none⟩ (.int .i64 (n5:Int))).setCell ⟨w4.heap.size,4,none⟩ (.string ⟨t6.toArray⟩))=wS at RSS GS BS ZS MS ⊢
  have hdd:(⟨t6.toArray⟩:ByteArray).size≤1000000:=by rw [qbb];omega
  generalize (⟨t6.toArray⟩:ByteArray)=dd at MS HRO hdd ⊢
  generalize (⟨#[]⟩:ByteArray)=ss at MS HRO
  generalize (n5:Int)=kk at MS HRO ⊢
  generalize r6=rl at RSS HRR
  generalize false=sn at MS HRO
  clear c3 c4 f3 f4 z6
  refine (HEN.out (w.heap.size + 1) rl wS RSS.out GS.out).mono ?_
  rintro e w7 ⟨rfl,hP7⟩
  rw [←HRR.out] at hP7
  have G7:=hI (Glob.rpost GS.out RSS.out hP7)
  have B7:Hid (Below w.heap.size w w7):=qaq BS.out hP7.2 (by omega)
  have R7:=hI hP7.1
  have Z7:=hI (qap ZS.out hP7.2 (by omega))
  have M7:=hI (qap MS.out hP7.2 (by omega))
  clear hP7
  go_wp2_with fail
  refine (HDN.out (w.heap.size + 1) _ w7 R7.out).mono ?_
  rintro e w8 ⟨ev,rfl,hfv,rfl⟩
  rcases hfv with ⟨he,rfl⟩ | ⟨he,op,ops,hol,hch⟩
  ·have HTV:=hI (HTK.out he)
   clear he
   obtain ⟨⟨c0,c1,c2,c3,c4,c5⟩,-⟩:=qbl M7.out
   have z7:w4.heap.size < w7.heap.size:=qaa M7.out
   go_wp2_with fail
   refine (HCK.out ⟨(n1:Int),(n2:Int),sn,kk,dd,ss⟩ w7 G7.out hdd).mono ?_
   rintro e w9 ⟨⟨v,rfl,hv⟩,hb9⟩
   rw [←HRO.out] at hv
   have B9:=hI (qac B7.out hb9)
   have Z9:=hI ((hb9.block _ (qaa Z7.out)).trans Z7.out)
   have M9:=hI ((hb9.block _ (qaa M7.out)).trans M7.out)
   clear hb9 c0 c1 c2 c3 c4 c5 z7
   rcases qma (recO s.data.toList) with h0 | h0
   ·rw [h0] at hv
    obtain rfl:v=.nilIface:=qel hv
    have HT0:Hid (rtC s.data.toList=0):=by show _=_;rw [HTV.out];exact h0
    have HALL:=hI (And.intro (qjy Z9.out (.int .i64 (n1:Int)) (.int .i64 (n2:Int)) (.bool sn) (.int .i64 kk) (.string dd) (.string ss)) (bel6 B9.out (Nat.le_refl _) (.int .i64 (n1:Int)) (.int .i64 (n2:Int)) (.bool sn) (.int .i64 kk) (.string dd) (.string ss)))
    clear h0 hv
    obtain ⟨⟨c0,c1,c2,c3,c4,c5⟩,-⟩:=qbl M9.out
    obtain ⟨⟨x0,x1,x2,x3,x4,x5⟩,u0,u1,u2,u3,u4,u5⟩:=qbl Z9.out
    have z9:w4.heap.size < w9.heap.size:=qaa M9.out
    have zz9:w.heap.size < w9.heap.size:=qaa Z9.out
    go_wp2
    generalize ((((((w9.setCell ⟨w.heap.size,0,none⟩ (.int .i64 (n1:Int))).setCell ⟨w.heap.size,1,none⟩ (.int .i64 (n2:Int))).setCell ⟨w.heap.size,2,none⟩ (.bool sn)).setCell ⟨w.heap.size,3,none⟩ (.int .i64 kk)).setCell ⟨w.heap.size,4,none⟩ (.string dd)).setCell ⟨w.heap.size,5,none⟩ (.string ss))=wf at HALL ⊢
    obtain ⟨hF,hFin⟩:=HALL.out
    obtain ⟨⟨y0,y1,y2,y3,y4,y5⟩,-⟩:=qbl hF
    refine bodyPost_ret (v:=.tuple #[.agg #[.int .i64 (n1:Int),.int .i64 (n2:Int),.bool sn,.int .i64 kk,.string dd,.string ss],.nilIface]) (by simp [results,Tryz.results66,go_sem,y0,y1,y2,y3,y4,y5]) rfl ?_
    exact ⟨⟨⟨(n1:Int),(n2:Int),sn,kk,dd,ss⟩,.nilIface,[],rfl,Or.inl ⟨by rw [HT0.out];rfl,rfl,rfl⟩,by simp,fun h=>absurd HT0.out h,fun _=>HRO.out.symm⟩,hFin⟩
   ·rw [h0] at hv
    have hch:=qdn hv (by decide)
    have HT0:Hid (rtC s.data.toList=2):=by show _=_;rw [HTV.out];exact h0
    have HWr:=hI (qdr qgz [qfk] 2 v w9 (by simpa using hch))
    obtain ⟨t1,u1,rfl⟩:∃ t u,v=.iface t u:=qar hch
    clear h0 hv hch
    go_wp2_with fail
    refine HWr.out.mono ?_
    rintro e w10 ⟨v,rfl,hch,hb10⟩
    have B10:=hI (qac B9.out hb10)
    have Z10:=hI ((hb10.block _ (qaa Z9.out)).trans Z9.out)
    have HCH:=hI hch
    clear hb10 hch
    have HALL:=hI (And.intro (qjy Z10.out (.int .i64 0) (.int .i64 0) (.bool false) (.int .i64 0) (.string ⟨#[]⟩) (.string ⟨#[]⟩)) (And.intro (same6 w10 w.heap.size (.int .i64 0) (.int .i64 0) (.bool false) (.int .i64 0) (.string ⟨#[]⟩) (.string ⟨#[]⟩)) (bel6 B10.out (Nat.le_refl _) (.int .i64 0) (.int .i64 0) (.bool false) (.int .i64 0) (.string ⟨#[]⟩) (.string ⟨#[]⟩))))
    obtain ⟨⟨x0,x1,x2,x3,x4,x5⟩,u0,u1,u2,u3,u4,u5⟩:=qbl Z10.out
    have zz10:w.heap.size < w10.heap.size:=qaa Z10.out
    go_wp2
    generalize ((((((w10.setCell ⟨w.heap.size,0,none⟩ (.int .i64 0)).setCell ⟨w.heap.size,1,none⟩ (.int .i64 0)).setCell ⟨w.heap.size,2,none⟩ (.bool false)).setCell ⟨w.heap.size,3,none⟩ (.int .i64 0)).setCell ⟨w.heap.size,4,none⟩ (.string ⟨#[]⟩)).setCell ⟨w.heap.size,5,none⟩ (.string ⟨#[]⟩))=wf at HALL ⊢
    obtain ⟨hF,hsm,hFin⟩:=HALL.out
    obtain ⟨⟨y0,y1,y2,y3,y4,y5⟩,-⟩:=qbl hF
    refine bodyPost_ret (v:=.tuple #[.agg #[.int .i64 0,.int .i64 0,.bool false,.int .i64 0,.string ⟨#[]⟩,.string ⟨#[]⟩],v]) (by simp [results,Tryz.results66,go_sem,y0,y1,y2,y3,y4,y5]) rfl ?_
    exact ⟨⟨zR,v,[qgz,qfk],rfl,Or.inr ⟨by rw [HT0.out];decide,by rw [HT0.out];exact qce Z10.out (qea _ _ _ _ _ _) hsm HCH.out⟩,by simp,fun _=>⟨by simp,rfl⟩,fun h=>by rw [HT0.out] at h;cases h⟩,hFin⟩
  ·have HTV:=hI (HTE.out he)
   have HWr:=hI (qdr qgz (op :: ops) _ ev w7 hch)
   have HE:=hI he
   have HOL:=hI hol
   obtain ⟨t1,u1,rfl⟩:∃ t u,ev=.iface t u:=qar hch
   clear he hol hch
   go_wp2_with fail
   refine HWr.out.mono ?_
   rintro e w10 ⟨v,rfl,hch,hb10⟩
   have B10:=hI (qac B7.out hb10)
   have Z10:=hI ((hb10.block _ (qaa Z7.out)).trans Z7.out)
   have HCH:=hI hch
   clear hb10 hch
   have HALL:=hI (And.intro (qjy Z10.out (.int .i64 0) (.int .i64 0) (.bool false) (.int .i64 0) (.string ⟨#[]⟩) (.string ⟨#[]⟩)) (And.intro (same6 w10 w.heap.size (.int .i64 0) (.int .i64 0) (.bool false) (.int .i64 0) (.string ⟨#[]⟩) (.string ⟨#[]⟩)) (bel6 B10.out (Nat.le_refl _) (.int .i64 0) (.int .i64 0) (.bool false) (.int .i64 0) (.string ⟨#[]⟩) (.string ⟨#[]⟩))))
   obtain ⟨⟨x0,x1,x2,x3,x4,x5⟩,u0,u1,u2,u3,u4,u5⟩:=qbl Z10.out
   have zz10:w.heap.size < w10.heap.size:=qaa Z10.out
   go_wp2
   generalize ((((((w10.setCell ⟨w.heap.size,0,none⟩ (.int .i64 0)).setCell ⟨w.heap.size,1,none⟩ (.int .i64 0)).setCell ⟨w.heap.size,2,none⟩ (.bool false)).setCell ⟨w.heap.size,3,none⟩ (.int .i64 0)).setCell ⟨w.heap.size,4,none⟩ (.string ⟨#[]⟩)).setCell ⟨w.heap.size,5,none⟩ (.string ⟨#[]⟩))=wf at HALL ⊢
   obtain ⟨hF,hsm,hFin⟩:=HALL.out
   obtain ⟨⟨y0,y1,y2,y3,y4,y5⟩,-⟩:=qbl hF
   refine bodyPost_ret (v:=.tuple #[.agg #[.int .i64 0,.int .i64 0,.bool false,.int .i64 0,.string ⟨#[]⟩,.string ⟨#[]⟩],v]) (by simp [results,Tryz.results66,go_sem,y0,y1,y2,y3,y4,y5]) rfl ?_
   refine ⟨⟨zR,v,qgz :: op :: ops,rfl,Or.inr ⟨by rw [HTV.out];have:=HE.out;omega,by rw [HTV.out];exact qce Z10.out (qea _ _ _ _ _ _) hsm HCH.out⟩,by have:=HOL.out;simp;omega,fun _=>⟨by simp,rfl⟩,fun h=>absurd (by rw [←HTV.out,h]) HE.out⟩,hFin⟩
 ·rw [if_pos rfl] at HRR HRO
  go_wp2_with fail
  refine (HTS.out (w.heap.size + 1) r3 r4 t4 _ HRS.out.symm (R4.out.below (bel1 w4 _)) (G4.out.below (bel1 w4 _))).mono ?_
  rintro e w6 ⟨rfl,hP6⟩
  have G6:=hI (Glob.rpost (G4.out.below (bel1 w4 _)) (R4.out.below (bel1 w4 _)) hP6)
  have B6:Hid (Below w.heap.size w w6):=qaq (qab B4.out _) hP6.2 (by omega)
  have R6:=hI hP6.1
  have Z6:=hI (qap ((Below.heap_alloc _ _ _ (qaa Z4.out)).trans Z4.out) hP6.2 (by omega))
  have M6:=hI (qap (qcq w4 (.cells #[.int .i64 (n1:Int),.int .i64 (n2:Int),.bool true,.int .i64 0,.string ⟨#[]⟩,.string ⟨#[]⟩] 128)) hP6.2 (by omega))
  clear hP6
  obtain ⟨⟨-,-,-,-,-,c5⟩,-,-,-,-,-,f5⟩:=qbl M6.out
  have z6:w4.heap.size < w6.heap.size:=qaa M6.out
  have hgs:=qag (World.grownBy.refl w6 (some w4.heap.size)) (p:=⟨w4.heap.size,5,none⟩) rfl (.string ⟨t4.toArray⟩)
  have RSS:=hI (R6.out.grown M6.out (qea _ _ _ _ _ _) hgs (by omega))
  have GS:Hid (Glob (w6.setCell ⟨w4.heap.size,5,none⟩ (.string ⟨t4.toArray⟩))):=hgs.cell G6.out (by intro e;injection e with e;simp only at e;omega)
  have BS:Hid (Below w.heap.size w (w6.setCell ⟨w4.heap.size,5,none⟩ (.string ⟨t4.toArray⟩))):=qaq B6.out hgs (by omega)
  have ZS:=hI (qap Z6.out hgs (by omega))
  have MS:Hid ((w6.setCell ⟨w4.heap.size,5,none⟩ (.string ⟨t4.toArray⟩)).heap[w4.heap.size]?=some (.cells #[.int .i64 (n1:Int),.int .i64 (n2:Int),.bool true,.int .i64 0,.string ⟨#[]⟩,.string ⟨t4.toArray⟩] 128 (0,0))):=by show _=_;rw [qae M6.out 5 (.string ⟨t4.toArray⟩)];rfl
  clear hgs
  go_wp2_with fail
  generalize (w6.setCell ⟨w4.heap.size,5,none⟩ (.string ⟨t4.toArray⟩))=wS at RSS GS BS ZS MS ⊢
  generalize (⟨t4.toArray⟩:ByteArray)=ss at MS HRO ⊢
  have hdd:(⟨#[]⟩:ByteArray).size≤1000000:=by decide
  generalize (⟨#[]⟩:ByteArray)=dd at MS HRO hdd
  generalize (0:Int)=kk at MS HRO
  generalize r4=rl at RSS HRR
  generalize true=sn at MS HRO
  clear c5 f5 z6
  refine (HEN.out (w.heap.size + 1) rl wS RSS.out GS.out).mono ?_
  rintro e w7 ⟨rfl,hP7⟩
  rw [←HRR.out] at hP7
  have G7:=hI (Glob.rpost GS.out RSS.out hP7)
  have B7:Hid (Below w.heap.size w w7):=qaq BS.out hP7.2 (by omega)
  have R7:=hI hP7.1
  have Z7:=hI (qap ZS.out hP7.2 (by omega))
  have M7:=hI (qap MS.out hP7.2 (by omega))
  clear hP7
  go_wp2_with fail
  refine (HDN.out (w.heap.size + 1) _ w7 R7.out).mono ?_
  rintro e w8 ⟨ev,rfl,hfv,rfl⟩
  rcases hfv with ⟨he,rfl⟩ | ⟨he,op,ops,hol,hch⟩
  ·have HTV:=hI (HTK.out he)
   clear he
   obtain ⟨⟨c0,c1,c2,c3,c4,c5⟩,-⟩:=qbl M7.out
   have z7:w4.heap.size < w7.heap.size:=qaa M7.out
   go_wp2_with fail
   refine (HCK.out ⟨(n1:Int),(n2:Int),sn,kk,dd,ss⟩ w7 G7.out hdd).mono ?_
   rintro e w9 ⟨⟨v,rfl,hv⟩,hb9⟩
   rw [←HRO.out] at hv
   have B9:=hI (qac B7.out hb9)
   have Z9:=hI ((hb9.block _ (qaa Z7.out)).trans Z7.out)
   have M9:=hI ((hb9.block _ (qaa M7.out)).trans M7.out)
   clear hb9 c0 c1 c2 c3 c4 c5 z7
   rcases qma (recO s.data.toList) with h0 | h0
   ·rw [h0] at hv
    obtain rfl:v=.nilIface:=qel hv
    have HT0:Hid (rtC s.data.toList=0):=by show _=_;rw [HTV.out];exact h0
    have HALL:=hI (And.intro (qjy Z9.out (.int .i64 (n1:Int)) (.int .i64 (n2:Int)) (.bool sn) (.int .i64 kk) (.string dd) (.string ss)) (bel6 B9.out (Nat.le_refl _) (.int .i64 (n1:Int)) (.int .i64 (n2:Int)) (.bool sn) (.int .i64 kk) (.string dd) (.string ss)))
    clear h0 hv
    obtain ⟨⟨c0,c1,c2,c3,c4,c5⟩,-⟩:=qbl M9.out
    obtain ⟨⟨x0,x1,x2,x3,x4,x5⟩,u0,u1,u2,u3,u4,u5⟩:=qbl Z9.out
    have z9:w4.heap.size < w9.heap.size:=qaa M9.out
    have zz9:w.heap.size < w9.heap.size:=qaa Z9.out
    go_wp2
    generalize ((((((w9.setCell ⟨w.heap.size,0,none⟩ (.int .i64 (n1:Int))).setCell ⟨w.heap.size,1,none⟩ (.int .i64 (n2:Int))).setCell ⟨w.heap.size,2,none⟩ (.bool sn)).setCell ⟨w.heap.size,3,none⟩ (.int .i64 kk)).setCell ⟨w.heap.size,4,none⟩ (.string dd)).setCell ⟨w.heap.size,5,none⟩ (.string ss))=wf at HALL ⊢
    obtain ⟨hF,hFin⟩:=HALL.out
    obtain ⟨⟨y0,y1,y2,y3,y4,y5⟩,-⟩:=qbl hF
    refine bodyPost_ret (v:=.tuple #[.agg #[.int .i64 (n1:Int),.int .i64 (n2:Int),.bool sn,.int .i64 kk,.string dd,.string ss],.nilIface]) (by simp [results,Tryz.results66,go_sem,y0,y1,y2,y3,y4,y5]) rfl ?_
    exact ⟨⟨⟨(n1:Int),(n2:Int),sn,kk,dd,ss⟩,.nilIface,[],rfl,Or.inl ⟨by rw [HT0.out];rfl,rfl,rfl⟩,by simp,fun h=>absurd HT0.out h,fun _=>HRO.out.symm⟩,hFin⟩
   ·rw [h0] at hv
    have hch:=qdn hv (by decide)
    have HT0:Hid (rtC s.data.toList=2):=by show _=_;rw [HTV.out];exact h0
    have HWr:=hI (qdr qgz [qfk] 2 v w9 (by simpa using hch))
    obtain ⟨t1,u1,rfl⟩:∃ t u,v=.iface t u:=qar hch
    clear h0 hv hch
    go_wp2_with fail
    refine HWr.out.mono ?_
    rintro e w10 ⟨v,rfl,hch,hb10⟩
    have B10:=hI (qac B9.out hb10)
    have Z10:=hI ((hb10.block _ (qaa Z9.out)).trans Z9.out)
    have HCH:=hI hch
    clear hb10 hch
    have HALL:=hI (And.intro (qjy Z10.out (.int .i64 0) (.int .i64 0) (.bool false) (.int .i64 0) (.string ⟨#[]⟩) (.string ⟨#[]⟩)) (And.intro (same6 w10 w.heap.size (.int .i64 0) (.int .i64 0) (.bool false) (.int .i64 0) (.string ⟨#[]⟩) (.string ⟨#[]⟩)) (bel6 B10.out (Nat.le_refl _) (.int .i64 0) (.int .i64 0) (.bool false) (.int .i64 0) (.string ⟨#[]⟩) (.string ⟨#[]⟩))))
    obtain ⟨⟨x0,x1,x2,x3,x4,x5⟩,u0,u1,u2,u3,u4,u5⟩:=qbl Z10.out
    have zz10:w.heap.size < w10.heap.size:=qaa Z10.out
    go_wp2
    generalize ((((((w10.setCell ⟨w.heap.size,0,none⟩ (.int .i64 0)).setCell ⟨w.heap.size,1,none⟩ (.int .i64 0)).setCell ⟨w.heap.size,2,none⟩ (.bool false)).setCell ⟨w.heap.size,3,none⟩ (.int .i64 0)).setCell ⟨w.heap.size,4,none⟩ (.string ⟨#[]⟩)).setCell ⟨w.heap.size,5,none⟩ (.string ⟨#[]⟩))=wf at HALL ⊢
    obtain ⟨hF,hsm,hFin⟩:=HALL.out
    obtain ⟨⟨y0,y1,y2,y3,y4,y5⟩,-⟩:=qbl hF
    refine bodyPost_ret (v:=.tuple #[.agg #[.int .i64 0,.int .i64 0,.bool false,.int .i64 0,.string ⟨#[]⟩,.string ⟨#[]⟩],v]) (by simp [results,Tryz.results66,go_sem,y0,y1,y2,y3,y4,y5]) rfl ?_
    exact ⟨⟨zR,v,[qgz,qfk],rfl,Or.inr ⟨by rw [HT0.out];decide,by rw [HT0.out];exact qce Z10.out (qea _ _ _ _ _ _) hsm HCH.out⟩,by simp,fun _=>⟨by simp,rfl⟩,fun h=>by rw [HT0.out] at h;cases h⟩,hFin⟩
  ·have HTV:=hI (HTE.out he)
   have HWr:=hI (qdr qgz (op :: ops) _ ev w7 hch)
   have HE:=hI he
   have HOL:=hI hol
   obtain ⟨t1,u1,rfl⟩:∃ t u,ev=.iface t u:=qar hch
   clear he hol hch
   go_wp2_with fail
   refine HWr.out.mono ?_
   rintro e w10 ⟨v,rfl,hch,hb10⟩
   have B10:=hI (qac B7.out hb10)
   have Z10:=hI ((hb10.block _ (qaa Z7.out)).trans Z7.out)
   have HCH:=hI hch
   clear hb10 hch
   have HALL:=hI (And.intro (qjy Z10.out (.int .i64 0) (.int .i64 0) (.bool false) (.int .i64 0) (.string ⟨#[]⟩) (.string ⟨#[]⟩)) (And.intro (same6 w10 w.heap.size (.int .i64 0) (.int .i64 0) (.bool false) (.int .i64 0) (.string ⟨#[]⟩) (.string ⟨#[]⟩)) (bel6 B10.out (Nat.le_refl _) (.int .i64 0) (.int .i64 0) (.bool false) (.int .i64 0) (.string ⟨#[]⟩) (.string ⟨#[]⟩))))
   obtain ⟨⟨x0,x1,x2,x3,x4,x5⟩,u0,u1,u2,u3,u4,u5⟩:=qbl Z10.out
   have zz10:w.heap.size < w10.heap.size:=qaa Z10.out
   go_wp2
   generalize ((((((w10.setCell ⟨w.heap.size,0,none⟩ (.int .i64 0)).setCell ⟨w.heap.size,1,none⟩ (.int .i64 0)).setCell ⟨w.heap.size,2,none⟩ (.bool false)).setCell ⟨w.heap.size,3,none⟩ (.int .i64 0)).setCell ⟨w.heap.size,4,none⟩ (.string ⟨#[]⟩)).setCell ⟨w.heap.size,5,none⟩ (.string ⟨#[]⟩))=wf at HALL ⊢
   obtain ⟨hF,hsm,hFin⟩:=HALL.out
   obtain ⟨⟨y0,y1,y2,y3,y4,y5⟩,-⟩:=qbl hF
   refine bodyPost_ret (v:=.tuple #[.agg #[.int .i64 0,.int .i64 0,.bool false,.int .i64 0,.string ⟨#[]⟩,.string ⟨#[]⟩],v]) (by simp [results,Tryz.results66,go_sem,y0,y1,y2,y3,y4,y5]) rfl ?_
   refine ⟨⟨zR,v,qgz :: op :: ops,rfl,Or.inr ⟨by rw [HTV.out];have:=HE.out;omega,by rw [HTV.out];exact qce Z10.out (qea _ _ _ _ _ _) hsm HCH.out⟩,by have:=HOL.out;simp;omega,fun _=>⟨by simp,rfl⟩,fun h=>absurd (by rw [←HTV.out,h]) HE.out⟩,hFin⟩
end Go.Proofs.YtjkecckndfcbjaaGreatDoor
namespace Go.Proofs.YtjkecckndfcbjaaGreatDoor
open Go.RowKit Go.Sort Nb
set_option maxRecDepth 100000 in
set_option maxHeartbeats 1000000 in
theorem rEvt_any (k:Int) (d:ByteArray) (w:World) (hd:d.size≤1000000) :
 Calls Tryz.prog 138 #[.agg #[.int .i64 k,.string d]] w fun e w'=>e=.returned (.int .i64 (evC k d:Int))∧Below w.heap.size w w':=by
 have HE:Hid (evC k d=if k=1 then (if d.size≤300 then 0 else 2) else if k=2 then (if qdc d.data.toList=0 then 0 else 2) else if k=3 then (if d.size=0 then 0 else 2) else 30):=rfl
 generalize evC k d=c at HE ⊢
 by_cases h1:k=1
 ·subst h1
  rw [if_pos rfl] at HE
  by_cases h3:d.size≤300
  ·rw [if_pos h3] at HE
   have h3':decide ((300:Int) < (d.size:Int))=false:=by simp;omega
   clear h3
   go_enter Tryz.func138,Tryz.ntmps138
   go_wp2
   go_ret
   rw [HE.out]
   exact ⟨rfl,bel1 w _⟩
  ·rw [if_neg h3] at HE
   have h3':decide ((300:Int) < (d.size:Int))=true:=by simp;omega
   clear h3
   go_enter Tryz.func138,Tryz.ntmps138
   go_wp2
   go_ret
   rw [HE.out]
   exact ⟨rfl,bel1 w _⟩
 ·rw [if_neg h1] at HE
  have h1':(k == 1)=false:=by simpa using h1
  clear h1
  by_cases h2:k=2
  ·subst h2
   rw [if_pos rfl] at HE
   have HTK:=hI (fun (W:World)=>dTake_any d W hd)
   clear h1'
   go_enter Tryz.func138,Tryz.ntmps138
   go_wp2_with fail
   refine (HTK.out _).mono ?_
   rintro e w1 ⟨⟨m,rfl,-,-,-⟩,hb1⟩
   have HB1:=hI (qac (bel1 w _) hb1)
   clear hb1
   obtain ⟨t,ht⟩:∃ t,qdc d.data.toList=t:=⟨_,rfl⟩
   rw [ht] at HE ⊢
   clear ht
   unfold msgV
   by_cases h0:t=0
   ·rw [if_pos h0] at HE
    have h0':((t:Int) != 0)=false:=by simp [h0]
    clear h0
    go_wp2
    go_ret
    rw [HE.out]
    exact ⟨rfl,qab HB1.out _⟩
   ·rw [if_neg h0] at HE
    have h0':((t:Int) != 0)=true:=by simpa using h0
    clear h0
    go_wp2
    go_ret
    rw [HE.out]
    exact ⟨rfl,qab HB1.out _⟩
  ·rw [if_neg h2] at HE
   have h2':(k == 2)=false:=by simpa using h2
   clear h2
   by_cases h3:k=3
   ·subst h3
    rw [if_pos rfl] at HE
    clear h1' h2'
    by_cases h4:d.size=0
    ·rw [if_pos h4] at HE
     have h4':d.toList.isEmpty=true:=by rw [sz0];simpa using h4
     clear h4
     go_enter Tryz.func138,Tryz.ntmps138
     go_wp2
     go_ret
     rw [HE.out]
     exact ⟨rfl,bel1 w _⟩
    ·rw [if_neg h4] at HE
     have h4':d.toList.isEmpty=false:=by rw [sz0];simpa using h4
     clear h4
     go_enter Tryz.func138,Tryz.ntmps138
     go_wp2
     go_ret
     rw [HE.out]
     exact ⟨rfl,bel1 w _⟩
   ·rw [if_neg h3] at HE
    have h3':(k == 3)=false:=by simpa using h3
    clear h3
    go_enter Tryz.func138,Tryz.ntmps138
    go_wp2
    go_ret
    rw [HE.out]
    exact ⟨rfl,bel1 w _⟩
theorem recC_out {r:PR} (h:¬ (1≤r.ep∧r.ep≤1000000∧0≤r.sq∧r.sq≤1000000)):recC r=2:=by
 rcases qma r with h0 | h0
 ·obtain ⟨h1,h2,h3,h4,-⟩:=qgi h0
  exact absurd ⟨h1,h2,h3,h4⟩ h
 ·exact h0
theorem recC_T {r:PR} (h:1≤r.ep∧r.ep≤1000000∧0≤r.sq∧r.sq≤1000000) (hs:r.sn=true):recC r=if r.sq=0∧r.st.size≤18000∧r.k=0∧r.dt.size=0 then 0 else 2:=by
 obtain ⟨h1,h2,h3,h4⟩:=h
 unfold recC qoy qoz
 rw [hs]
 by_cases a:r.sq=0 <;> by_cases b:r.st.size≤18000 <;> by_cases c:r.k=0 <;> by_cases d:r.dt.size=0 <;> simp [h1,h2,h3,h4,a,b,c,d]
theorem recC_F {r:PR} (h:1≤r.ep∧r.ep≤1000000∧0≤r.sq∧r.sq≤1000000) (hs:r.sn=false):recC r=if 0 < r.sq∧r.st.size=0∧evC r.k r.dt=0 then 0 else 2:=by
 obtain ⟨h1,h2,h3,h4⟩:=h
 unfold recC qoy qoz
 rw [hs]
 by_cases a:r.sq=0
 ·simp [h1,h2,a]
 ·have a':0 < r.sq:=by omega
  by_cases b:r.st.size=0 <;> by_cases c:evC r.k r.dt=0 <;> simp [h1,h2,h3,h4,a,a',b,c]
set_option maxRecDepth 100000 in
set_option maxHeartbeats 4000000 in
theorem qhw (r:PR) (w:World) (hd:r.dt.size≤1000000) :
 Calls Tryz.prog 110 #[recV r] w fun e w'=>e=.returned (.int .i64 (recC r:Int))∧Below w.heap.size w w':=by
 have HEV:=hI (fun (W:World)=>rEvt_any r.k r.dt W hd)
 have HOUT:=hI (@recC_out r)
 have HT:=hI (@recC_T r)
 have HF:=hI (@recC_F r)
 unfold recV
 generalize recC r=rc at HOUT HT HF ⊢
 obtain ⟨ep,sq,sn,k,dt,st⟩:=r
 dsimp only at HEV HOUT HT HF ⊢
 clear hd
 by_cases h1:ep < 1
 ·have HV:Hid (rc=2):=HOUT.out (by omega)
  clear HOUT HT HF HEV
  go_enter Tryz.func110,Tryz.ntmps110
  go_wp2
  go_ret
  rw [HV.out]
  exact ⟨rfl,bel1 w _⟩
 by_cases h2:1000000 < ep
 ·have HV:Hid (rc=2):=HOUT.out (by omega)
  clear HOUT HT HF HEV
  go_enter Tryz.func110,Tryz.ntmps110
  go_wp2
  go_ret
  rw [HV.out]
  exact ⟨rfl,bel1 w _⟩
 by_cases h3:sq < 0
 ·have HV:Hid (rc=2):=HOUT.out (by omega)
  clear HOUT HT HF HEV
  go_enter Tryz.func110,Tryz.ntmps110
  go_wp2
  go_ret
  rw [HV.out]
  exact ⟨rfl,bel1 w _⟩
 by_cases h4:1000000 < sq
 ·have HV:Hid (rc=2):=HOUT.out (by omega)
  clear HOUT HT HF HEV
  go_enter Tryz.func110,Tryz.ntmps110
  go_wp2
  go_ret
  rw [HV.out]
  exact ⟨rfl,bel1 w _⟩
 have hb:1≤ep∧ep≤1000000∧0≤sq∧sq≤1000000:=by omega
 clear HOUT
 cases sn
 ·have HF1:=hI (HF.out hb rfl)
  have hse:=@sz0 st
  clear HT HF hb
  by_cases h5:0 < sq
  ·by_cases h6:st.size=0
   ·have h6':decide (st.size=0)=true:=by simpa using h6
    rw [h6'] at hse
    obtain ⟨t,ht⟩:∃ t,evC k dt=t:=⟨_,rfl⟩
    rw [ht] at HEV HF1
    clear ht h6'
    by_cases h7:t=0
    ·have h7':((t:Int) == 0)=true:=by simp [h7]
     rw [if_pos ⟨h5,h6,h7⟩] at HF1
     clear h6 h7
     go_enter Tryz.func110,Tryz.ntmps110
     go_wp2_with (go_at_call 138;refine (HEV.out _).mono ?_;rintro e w1 ⟨rfl,hb1⟩;have HB1:=hI (qac (bel1 w _) hb1);clear hb1)
     go_ret
     rw [HF1.out]
     exact ⟨rfl,HB1.out⟩
    ·have h7':((t:Int) == 0)=false:=by simpa using h7
     rw [if_neg (by intro h;exact h7 h.2.2)] at HF1
     clear h6 h7
     go_enter Tryz.func110,Tryz.ntmps110
     go_wp2_with (go_at_call 138;refine (HEV.out _).mono ?_;rintro e w1 ⟨rfl,hb1⟩;have HB1:=hI (qac (bel1 w _) hb1);clear hb1)
     go_ret
     rw [HF1.out]
     exact ⟨rfl,HB1.out⟩
   ·have h6':decide (st.size=0)=false:=by simpa using h6
    rw [h6'] at hse
    rw [if_neg (by intro h;exact h6 h.2.1)] at HF1
    clear h6 h6' HEV
    go_enter Tryz.func110,Tryz.ntmps110
    go_wp2
    go_ret
    rw [HF1.out]
    exact ⟨rfl,bel1 w _⟩
  ·rw [if_neg (by intro h;exact h5 h.1)] at HF1
   clear hse HEV
   go_enter Tryz.func110,Tryz.ntmps110
   go_wp2
   go_ret
   rw [HF1.out]
   exact ⟨rfl,bel1 w _⟩
 ·have HT1:=hI (HT.out hb rfl)
  have hde:=@sz0 dt
  clear HT HF hb HEV
  by_cases h5:sq=0
  ·have h5':(sq == 0)=true:=by simpa using h5
   by_cases h6:st.size≤18000
   ·have h6':decide ((st.size:Int)≤18000)=true:=by simp;omega
    by_cases h7:k=0
    ·have h7':(k == 0)=true:=by simpa using h7
     by_cases h8:dt.size=0
     ·have h8':decide (dt.size=0)=true:=by simpa using h8
      rw [h8'] at hde
      rw [if_pos ⟨h5,h6,h7,h8⟩] at HT1
      clear h5 h6 h7 h8 h8'
      go_enter Tryz.func110,Tryz.ntmps110
      go_wp2
      go_ret
      rw [HT1.out]
      exact ⟨rfl,bel1 w _⟩
     ·have h8':decide (dt.size=0)=false:=by simpa using h8
      rw [h8'] at hde
      rw [if_neg (by intro h;exact h8 h.2.2.2)] at HT1
      clear h5 h6 h7 h8 h8'
      go_enter Tryz.func110,Tryz.ntmps110
      go_wp2
      go_ret
      rw [HT1.out]
      exact ⟨rfl,bel1 w _⟩
    ·have h7':(k == 0)=false:=by simpa using h7
     rw [if_neg (by intro h;exact h7 h.2.2.1)] at HT1
     clear h5 h6 h7 hde
     go_enter Tryz.func110,Tryz.ntmps110
     go_wp2
     go_ret
     rw [HT1.out]
     exact ⟨rfl,bel1 w _⟩
   ·have h6':decide ((st.size:Int)≤18000)=false:=by simp;omega
    rw [if_neg (by intro h;exact h6 h.2.1)] at HT1
    clear h5 h6 hde
    go_enter Tryz.func110,Tryz.ntmps110
    go_wp2
    go_ret
    rw [HT1.out]
    exact ⟨rfl,bel1 w _⟩
  ·have h5':(sq == 0)=false:=by simpa using h5
   rw [if_neg (by intro h;exact h5 h.1)] at HT1
   clear h5 hde
   go_enter Tryz.func110,Tryz.ntmps110
   go_wp2
   go_ret
   rw [HT1.out]
   exact ⟨rfl,bel1 w _⟩
end Go.Proofs.YtjkecckndfcbjaaGreatDoor
