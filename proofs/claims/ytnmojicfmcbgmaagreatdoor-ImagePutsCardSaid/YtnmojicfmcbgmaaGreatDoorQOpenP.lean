/- Texts that the law leans on. -/
import Derived.Test.YtnmojicfmcbgmaaGreatDoorQOpenN
import Derived.Test.YtnmojicfmcbgmaaGreatDoorQOpenK
import Derived.Test.YtnmojicfmcbgmaaGreatDoorQTbH
namespace Go.Proofs.YtnmojicfmcbgmaaGreatDoor
open Go.ChangeShapes Go.WideShapes Go.ChangeAt Go.RowKit Go.Deep Go.Joins
set_option maxRecDepth 100000
section
variable {H:Type} {enc:TypeId×Value→H} {P:Program} {w:World} {base:Nat} {sp:Nat→Bool} {held:Bool}
theorem qeh {t:TypeId} {fs:Array Field} {n:Nat} {cs:List Value} {x:DataW H×List MemPlace} (hs:P.underlying t=some (.struct fs))
 (h:DataW.trod enc P w base sp held n t cs=some x):cs.length=P.cellsOf t∧∀ (j o:Nat) (u:TypeId),(fs[j]?).map (fun f=>(f.offset,f.type))=some (o,u)→∃ y m,DataW.trod enc P w base sp held m u ((cs.drop o).take (P.cellsOf u))=some y:=by
 obtain ⟨xs,m,_,_,hcl,hlen,hg⟩:=DataW.trod_struct hs h
 refine ⟨hcl,fun j o u hj=>?_⟩
 obtain ⟨f,hf1,hf2⟩:=Option.map_eq_some_iff.1 hj
 injection hf2 with e1 e2
 have hjl:j < fs.size:=(Array.getElem?_eq_some_iff.1 hf1).1
 have h1:=hg j f hf1
 rw [e1,e2] at h1
 have hys:xs[j]?=some (xs[j]'(by omega)):=List.getElem?_eq_getElem (by omega)
 exact ⟨xs[j]'(by omega),m,h1.trans hys⟩
theorem qmb {t e:TypeId} {n:Nat} {cs:List Value} {x:DataW H×List MemPlace} (ht:P.underlying t=some (.slice e)) (h:DataW.trod enc P w base sp held n t cs=some x):∃ v,cs=[v]:=by
 rcases DataW.trod_slice ht h with ⟨hcs,_⟩ | ⟨a,len,cap,_,_,_,_,hcs,_⟩
 ·exact ⟨_,hcs⟩
 ·exact ⟨_,hcs⟩
end
theorem qce:Tryz.prog.cellsOf 3 = 1:=by kernel_rfl
section
variable {H:Type} {enc:TypeId×Value→H} {w:World}
theorem rdI_of_J {B:Nat} {w:World} {A:Option Addr} {d:Array Int} (h:RdK encJ_T 1 B w A d):RdI_R B w A d:=fun h0=>by
 obtain ⟨b,off,e,hlt,hc⟩:=h h0
 refine ⟨b,off,e,hlt,fun i hi=>?_⟩
 rw [hc i (by omega),Go.Sort.get_flatK _ _ _ _ (by omega),Nat.mod_one,Nat.div_one]
 rfl
theorem prRUnd:Tryz.prog.underlying 141 = some (.struct (Tryz.prog.fieldsOf 141)):=by kernel_rfl
theorem prRTys:(Tryz.prog.fieldsOf 141).map (fun f=>(f.offset,f.type))=#[(0,3),(1,3)]:=by kernel_rfl
theorem prRCel:Tryz.prog.cellsOf 141 = 2:=by kernel_rfl
theorem qvs {n:Nat} {cs:List Value} {x:DataW H×List MemPlace} (h:DataW.trod enc Tryz.prog w 0 (fun _=>true) true n 141 cs=some x):∃ a:Int×Int,cs=encR a∧True:=by
 obtain ⟨hl,hf⟩:=qeh prRUnd h
 rw [prRCel] at hl
 have hty:∀ j o u,(#[(0,3),(1,3)]:Array (Nat×TypeId))[j]?=some (o,u)→∃ y m,DataW.trod enc Tryz.prog w 0 (fun _=>true) true m u ((cs.drop o).take (Tryz.prog.cellsOf u))=some y:=fun j o u hj=>hf j o u (by rw [←prRTys,Array.getElem?_map] at hj;exact hj)
 clear hf h
 obtain ⟨c0,cs,rfl⟩:=List.exists_cons_of_length_eq_add_one hl
 have hl:=Nat.succ.inj hl
 obtain ⟨c1,cs,rfl⟩:=List.exists_cons_of_length_eq_add_one hl
 have hl:=Nat.succ.inj hl
 obtain rfl:cs=[]:=List.eq_nil_of_length_eq_zero hl
 obtain ⟨_,_,g0⟩:=hty 0 0 _ rfl
 rw [qce] at g0
 obtain ⟨x0,rfl⟩:=qak Tryz.underlying3 (g0:DataW.trod _ _ _ _ _ _ _ _ [c0]=some _)
 obtain ⟨_,_,g1⟩:=hty 1 1 _ rfl
 rw [qce] at g1
 obtain ⟨x1,rfl⟩:=qak Tryz.underlying3 (g1:DataW.trod _ _ _ _ _ _ _ _ [c1]=some _)
 exact ⟨(x0,x1),rfl,trivial⟩
theorem prAUnd:Tryz.prog.underlying 29 = some (.struct (Tryz.prog.fieldsOf 29)):=by kernel_rfl
theorem prATys:(Tryz.prog.fieldsOf 29).map (fun f=>(f.offset,f.type))=#[(0,3),(1,3)]:=by kernel_rfl
theorem qvt:Tryz.prog.cellsOf 29 = 2:=by kernel_rfl
theorem qpb {n:Nat} {cs:List Value} {x:DataW H×List MemPlace} (h:DataW.trod enc Tryz.prog w 0 (fun _=>true) true n 29 cs=some x):∃ a:Int×Int,cs=qbe a∧True:=by
 obtain ⟨hl,hf⟩:=qeh prAUnd h
 rw [qvt] at hl
 have hty:∀ j o u,(#[(0,3),(1,3)]:Array (Nat×TypeId))[j]?=some (o,u)→∃ y m,DataW.trod enc Tryz.prog w 0 (fun _=>true) true m u ((cs.drop o).take (Tryz.prog.cellsOf u))=some y:=fun j o u hj=>hf j o u (by rw [←prATys,Array.getElem?_map] at hj;exact hj)
 clear hf h
 obtain ⟨c0,cs,rfl⟩:=List.exists_cons_of_length_eq_add_one hl
 have hl:=Nat.succ.inj hl
 obtain ⟨c1,cs,rfl⟩:=List.exists_cons_of_length_eq_add_one hl
 have hl:=Nat.succ.inj hl
 obtain rfl:cs=[]:=List.eq_nil_of_length_eq_zero hl
 obtain ⟨_,_,g0⟩:=hty 0 0 _ rfl
 rw [qce] at g0
 obtain ⟨x0,rfl⟩:=qak Tryz.underlying3 (g0:DataW.trod _ _ _ _ _ _ _ _ [c0]=some _)
 obtain ⟨_,_,g1⟩:=hty 1 1 _ rfl
 rw [qce] at g1
 obtain ⟨x1,rfl⟩:=qak Tryz.underlying3 (g1:DataW.trod _ _ _ _ _ _ _ _ [c1]=some _)
 exact ⟨(x0,x1),rfl,trivial⟩
theorem keUnd:Tryz.prog.underlying 81 = some (.struct (Tryz.prog.fieldsOf 81)):=by kernel_rfl
theorem keTys:(Tryz.prog.fieldsOf 81).map (fun f=>(f.offset,f.type))=#[(0,3),(1,79),(2,23)]:=by kernel_rfl
theorem keCel:Tryz.prog.cellsOf 81 = 3:=by kernel_rfl
theorem trod_ke {n:Nat} {cs:List Value} {x:DataW H×List MemPlace} (h:DataW.trod enc Tryz.prog w 0 (fun _=>true) true n 81 cs=some x):∃ a:KE,cs=qcs a∧RdKE w a:=by
 obtain ⟨hl,hf⟩:=qeh keUnd h
 rw [keCel] at hl
 have hty:∀ j o u,(#[(0,3),(1,79),(2,23)]:Array (Nat×TypeId))[j]?=some (o,u)→∃ y m,DataW.trod enc Tryz.prog w 0 (fun _=>true) true m u ((cs.drop o).take (Tryz.prog.cellsOf u))=some y:=fun j o u hj=>hf j o u (by rw [←keTys,Array.getElem?_map] at hj;exact hj)
 clear hf h
 obtain ⟨c0,cs,rfl⟩:=List.exists_cons_of_length_eq_add_one hl
 have hl:=Nat.succ.inj hl
 obtain ⟨c1,cs,rfl⟩:=List.exists_cons_of_length_eq_add_one hl
 have hl:=Nat.succ.inj hl
 obtain ⟨c2,cs,rfl⟩:=List.exists_cons_of_length_eq_add_one hl
 have hl:=Nat.succ.inj hl
 obtain rfl:cs=[]:=List.eq_nil_of_length_eq_zero hl
 obtain ⟨_,_,g0⟩:=hty 0 0 _ rfl
 rw [qce] at g0
 obtain ⟨x0,rfl⟩:=qak Tryz.underlying3 (g0:DataW.trod _ _ _ _ _ _ _ _ [c0]=some _)
 obtain ⟨_,_,g1⟩:=hty 1 1 _ rfl
 rw [show Tryz.prog.cellsOf 79 = 1 by kernel_rfl] at g1
 obtain ⟨A1,e1,z1,rfl,r1,q1,s1,n1⟩:=qdh (en:=encR) (k:=2) (Q:=fun _=>True) Tryz.underlying79 prRCel (fun _=>rfl) (by decide) (fun _ _ _ h=>qvs h) (g1:DataW.trod _ _ _ _ _ _ _ _ [c1]=some _)
 obtain ⟨_,_,g2⟩:=hty 2 2 _ rfl
 rw [show Tryz.prog.cellsOf 23 = 1 by kernel_rfl] at g2
 obtain ⟨A2,e2,z2,rfl,r2,q2,s2,n2⟩:=qdh (en:=qbe) (k:=2) (Q:=fun _=>True) Tryz.underlying23 qvt (fun _=>rfl) (by decide) (fun _ _ _ h=>qpb h) (g2:DataW.trod _ _ _ _ _ _ _ _ [c2]=some _)
 exact ⟨⟨x0,⟨A1,e1,z1⟩,⟨A2,e2,z2⟩⟩,rfl,⟨r1,n1⟩,⟨r2,n2⟩⟩
theorem itmUnd:Tryz.prog.underlying 84 = some (.struct (Tryz.prog.fieldsOf 84)):=by kernel_rfl
theorem itmTys:(Tryz.prog.fieldsOf 84).map (fun f=>(f.offset,f.type))=#[(0,3),(1,3),(2,3),(3,3)]:=by kernel_rfl
theorem itmCel:Tryz.prog.cellsOf 84 = 4:=by kernel_rfl
theorem trod_itm {n:Nat} {cs:List Value} {x:DataW H×List MemPlace} (h:DataW.trod enc Tryz.prog w 0 (fun _=>true) true n 84 cs=some x):∃ a:IT,cs=qdc a∧True:=by
 obtain ⟨hl,hf⟩:=qeh itmUnd h
 rw [itmCel] at hl
 have hty:∀ j o u,(#[(0,3),(1,3),(2,3),(3,3)]:Array (Nat×TypeId))[j]?=some (o,u)→∃ y m,DataW.trod enc Tryz.prog w 0 (fun _=>true) true m u ((cs.drop o).take (Tryz.prog.cellsOf u))=some y:=fun j o u hj=>hf j o u (by rw [←itmTys,Array.getElem?_map] at hj;exact hj)
 clear hf h
 obtain ⟨c0,cs,rfl⟩:=List.exists_cons_of_length_eq_add_one hl
 have hl:=Nat.succ.inj hl
 obtain ⟨c1,cs,rfl⟩:=List.exists_cons_of_length_eq_add_one hl
 have hl:=Nat.succ.inj hl
 obtain ⟨c2,cs,rfl⟩:=List.exists_cons_of_length_eq_add_one hl
 have hl:=Nat.succ.inj hl
 obtain ⟨c3,cs,rfl⟩:=List.exists_cons_of_length_eq_add_one hl
 have hl:=Nat.succ.inj hl
 obtain rfl:cs=[]:=List.eq_nil_of_length_eq_zero hl
 obtain ⟨_,_,g0⟩:=hty 0 0 _ rfl
 rw [qce] at g0
 obtain ⟨x0,rfl⟩:=qak Tryz.underlying3 (g0:DataW.trod _ _ _ _ _ _ _ _ [c0]=some _)
 obtain ⟨_,_,g1⟩:=hty 1 1 _ rfl
 rw [qce] at g1
 obtain ⟨x1,rfl⟩:=qak Tryz.underlying3 (g1:DataW.trod _ _ _ _ _ _ _ _ [c1]=some _)
 obtain ⟨_,_,g2⟩:=hty 2 2 _ rfl
 rw [qce] at g2
 obtain ⟨x2,rfl⟩:=qak Tryz.underlying3 (g2:DataW.trod _ _ _ _ _ _ _ _ [c2]=some _)
 obtain ⟨_,_,g3⟩:=hty 3 3 _ rfl
 rw [qce] at g3
 obtain ⟨x3,rfl⟩:=qak Tryz.underlying3 (g3:DataW.trod _ _ _ _ _ _ _ _ [c3]=some _)
 exact ⟨⟨x0,x1,x2,x3⟩,rfl,trivial⟩
theorem sesUnd:Tryz.prog.underlying 86 = some (.struct (Tryz.prog.fieldsOf 86)):=by kernel_rfl
theorem sesTys:(Tryz.prog.fieldsOf 86).map (fun f=>(f.offset,f.type))=#[(0,3),(1,3),(2,9)]:=by kernel_rfl
theorem sesCel:Tryz.prog.cellsOf 86 = 3:=by kernel_rfl
theorem trod_ses {n:Nat} {cs:List Value} {x:DataW H×List MemPlace} (h:DataW.trod enc Tryz.prog w 0 (fun _=>true) true n 86 cs=some x):∃ a:SS,cs=qcw a∧True:=by
 obtain ⟨hl,hf⟩:=qeh sesUnd h
 rw [sesCel] at hl
 have hty:∀ j o u,(#[(0,3),(1,3),(2,9)]:Array (Nat×TypeId))[j]?=some (o,u)→∃ y m,DataW.trod enc Tryz.prog w 0 (fun _=>true) true m u ((cs.drop o).take (Tryz.prog.cellsOf u))=some y:=fun j o u hj=>hf j o u (by rw [←sesTys,Array.getElem?_map] at hj;exact hj)
 clear hf h
 obtain ⟨c0,cs,rfl⟩:=List.exists_cons_of_length_eq_add_one hl
 have hl:=Nat.succ.inj hl
 obtain ⟨c1,cs,rfl⟩:=List.exists_cons_of_length_eq_add_one hl
 have hl:=Nat.succ.inj hl
 obtain ⟨c2,cs,rfl⟩:=List.exists_cons_of_length_eq_add_one hl
 have hl:=Nat.succ.inj hl
 obtain rfl:cs=[]:=List.eq_nil_of_length_eq_zero hl
 obtain ⟨_,_,g0⟩:=hty 0 0 _ rfl
 rw [qce] at g0
 obtain ⟨x0,rfl⟩:=qak Tryz.underlying3 (g0:DataW.trod _ _ _ _ _ _ _ _ [c0]=some _)
 obtain ⟨_,_,g1⟩:=hty 1 1 _ rfl
 rw [qce] at g1
 obtain ⟨x1,rfl⟩:=qak Tryz.underlying3 (g1:DataW.trod _ _ _ _ _ _ _ _ [c1]=some _)
 obtain ⟨_,_,g2⟩:=hty 2 2 _ rfl
 rw [show Tryz.prog.cellsOf 9 = 1 by kernel_rfl] at g2
 obtain ⟨x2,rfl⟩:=qjd Tryz.underlying9 (g2:DataW.trod _ _ _ _ _ _ _ _ [c2]=some _)
 exact ⟨⟨x0,x1,x2⟩,rfl,trivial⟩
theorem trod_iv {n:Nat} {cs:List Value} {x:DataW H×List MemPlace} (h:DataW.trod enc Tryz.prog w 0 (fun _=>true) true n 3 cs=some x):∃ a:Int,cs=encJ_T a∧True:=by
 obtain ⟨a,e0,_,_⟩:=DataW.trod_int Tryz.underlying3 h
 exact ⟨a,e0,trivial⟩
theorem trod_il {n:Nat} {cs:List Value} {x:DataW H×List MemPlace} (h:DataW.trod enc Tryz.prog w 0 (fun _=>true) true n 26 cs=some x):∃ a:RW Int,cs=encW a∧RdJ w a:=by
 obtain ⟨v,rfl⟩:=qmb Tryz.underlying26 h
 obtain ⟨A,c,z,rfl,r,_,s,n'⟩:=qdh (en:=encJ_T) (k:=1) (Q:=fun _=>True) Tryz.underlying26 qce (fun _=>rfl) (by decide) (fun _ _ _ h=>trod_iv h) h
 exact ⟨⟨A,c,z⟩,rfl,rdI_of_J r,s,n'⟩
theorem trod_rl {n:Nat} {cs:List Value} {x:DataW H×List MemPlace} (h:DataW.trod enc Tryz.prog w 0 (fun _=>true) true n 79 cs=some x):∃ a:RW (Int×Int),cs=encW a∧RdW encR 2 w a:=by
 obtain ⟨v,rfl⟩:=qmb Tryz.underlying79 h
 obtain ⟨A,c,z,rfl,r,_,s,n'⟩:=qdh (en:=encR) (k:=2) (Q:=fun _=>True) Tryz.underlying79 prRCel (fun _=>rfl) (by decide) (fun _ _ _ h=>qvs h) h
 exact ⟨⟨A,c,z⟩,rfl,r,s,n'⟩
def encSto (x:RW IT×RW SS):List Value:=[x.1.v,x.2.v]
theorem stoUnd:Tryz.prog.underlying 33 = some (.struct (Tryz.prog.fieldsOf 33)):=by kernel_rfl
theorem stoTys:(Tryz.prog.fieldsOf 33).map (fun f=>(f.offset,f.type))=#[(0,30),(1,31)]:=by kernel_rfl
theorem stoCel:Tryz.prog.cellsOf 33 = 2:=by kernel_rfl
theorem trod_sto {n:Nat} {cs:List Value} {x:DataW H×List MemPlace} (h:DataW.trod enc Tryz.prog w 0 (fun _=>true) true n 33 cs=some x):∃ a:RW IT×RW SS,cs=encSto a∧(RdW qdc 4 w a.1∧RdW qcw 3 w a.2):=by
 obtain ⟨hl,hf⟩:=qeh stoUnd h
 rw [stoCel] at hl
 have hty:∀ j o u,(#[(0,30),(1,31)]:Array (Nat×TypeId))[j]?=some (o,u)→∃ y m,DataW.trod enc Tryz.prog w 0 (fun _=>true) true m u ((cs.drop o).take (Tryz.prog.cellsOf u))=some y:=fun j o u hj=>hf j o u (by rw [←stoTys,Array.getElem?_map] at hj;exact hj)
 clear hf h
 obtain ⟨c0,cs,rfl⟩:=List.exists_cons_of_length_eq_add_one hl
 have hl:=Nat.succ.inj hl
 obtain ⟨c1,cs,rfl⟩:=List.exists_cons_of_length_eq_add_one hl
 have hl:=Nat.succ.inj hl
 obtain rfl:cs=[]:=List.eq_nil_of_length_eq_zero hl
 obtain ⟨_,_,g0⟩:=hty 0 0 _ rfl
 rw [show Tryz.prog.cellsOf 30 = 1 by kernel_rfl] at g0
 obtain ⟨A0,e0,z0,rfl,r0,q0,s0,n0⟩:=qdh (en:=qdc) (k:=4) (Q:=fun _=>True) Tryz.underlying30 itmCel encIT_len (by decide) (fun _ _ _ h=>trod_itm h) (g0:DataW.trod _ _ _ _ _ _ _ _ [c0]=some _)
 obtain ⟨_,_,g1⟩:=hty 1 1 _ rfl
 rw [show Tryz.prog.cellsOf 31 = 1 by kernel_rfl] at g1
 obtain ⟨A1,e1,z1,rfl,r1,q1,s1,n1⟩:=qdh (en:=qcw) (k:=3) (Q:=fun _=>True) Tryz.underlying31 sesCel encSS_len (by decide) (fun _ _ _ h=>trod_ses h) (g1:DataW.trod _ _ _ _ _ _ _ _ [c1]=some _)
 exact ⟨(⟨A0,e0,z0⟩,⟨A1,e1,z1⟩),rfl,⟨r0,s0,n0⟩,⟨r1,s1,n1⟩⟩
theorem repUnd:Tryz.prog.underlying 35 = some (.struct (Tryz.prog.fieldsOf 35)):=by kernel_rfl
theorem repTys:(Tryz.prog.fieldsOf 35).map (fun f=>(f.offset,f.type))=#[(0,3),(1,3),(2,3),(3,3),(4,3),(5,3),(6,3),(7,22),(8,23),(9,24),(10,25),(11,26),(12,27),(13,29),(15,3),(16,33)]:=by kernel_rfl
theorem repCel:Tryz.prog.cellsOf 35 = 18:=by kernel_rfl
theorem trod_rep {n:Nat} {cs:List Value} {x:DataW H×List MemPlace} (h:DataW.trod enc Tryz.prog w 0 (fun _=>true) true n 35 cs=some x):∃ a:RP,cs=encP a∧RdP w a:=by
 obtain ⟨hl,hf⟩:=qeh repUnd h
 rw [repCel] at hl
 have hty:∀ j o u,(#[(0,3),(1,3),(2,3),(3,3),(4,3),(5,3),(6,3),(7,22),(8,23),(9,24),(10,25),(11,26),(12,27),(13,29),(15,3),(16,33)]:Array (Nat×TypeId))[j]?=some (o,u)→∃ y m,DataW.trod enc Tryz.prog w 0 (fun _=>true) true m u ((cs.drop o).take (Tryz.prog.cellsOf u))=some y:=fun j o u hj=>hf j o u (by rw [←repTys,Array.getElem?_map] at hj;exact hj)
 clear hf h
 obtain ⟨c0,cs,rfl⟩:=List.exists_cons_of_length_eq_add_one hl
 have hl:=Nat.succ.inj hl
 obtain ⟨c1,cs,rfl⟩:=List.exists_cons_of_length_eq_add_one hl
 have hl:=Nat.succ.inj hl
 obtain ⟨c2,cs,rfl⟩:=List.exists_cons_of_length_eq_add_one hl
 have hl:=Nat.succ.inj hl
 obtain ⟨c3,cs,rfl⟩:=List.exists_cons_of_length_eq_add_one hl
 have hl:=Nat.succ.inj hl
 obtain ⟨c4,cs,rfl⟩:=List.exists_cons_of_length_eq_add_one hl
 have hl:=Nat.succ.inj hl
 obtain ⟨c5,cs,rfl⟩:=List.exists_cons_of_length_eq_add_one hl
 have hl:=Nat.succ.inj hl
 obtain ⟨c6,cs,rfl⟩:=List.exists_cons_of_length_eq_add_one hl
 have hl:=Nat.succ.inj hl
 obtain ⟨c7,cs,rfl⟩:=List.exists_cons_of_length_eq_add_one hl
 have hl:=Nat.succ.inj hl
 obtain ⟨c8,cs,rfl⟩:=List.exists_cons_of_length_eq_add_one hl
 have hl:=Nat.succ.inj hl
 obtain ⟨c9,cs,rfl⟩:=List.exists_cons_of_length_eq_add_one hl
 have hl:=Nat.succ.inj hl
 obtain ⟨c10,cs,rfl⟩:=List.exists_cons_of_length_eq_add_one hl
 have hl:=Nat.succ.inj hl
 obtain ⟨c11,cs,rfl⟩:=List.exists_cons_of_length_eq_add_one hl
 have hl:=Nat.succ.inj hl
 obtain ⟨c12,cs,rfl⟩:=List.exists_cons_of_length_eq_add_one hl
 have hl:=Nat.succ.inj hl
 obtain ⟨c13,cs,rfl⟩:=List.exists_cons_of_length_eq_add_one hl
 have hl:=Nat.succ.inj hl
 obtain ⟨c14,cs,rfl⟩:=List.exists_cons_of_length_eq_add_one hl
 have hl:=Nat.succ.inj hl
 obtain ⟨c15,cs,rfl⟩:=List.exists_cons_of_length_eq_add_one hl
 have hl:=Nat.succ.inj hl
 obtain ⟨c16,cs,rfl⟩:=List.exists_cons_of_length_eq_add_one hl
 have hl:=Nat.succ.inj hl
 obtain ⟨c17,cs,rfl⟩:=List.exists_cons_of_length_eq_add_one hl
 have hl:=Nat.succ.inj hl
 obtain rfl:cs=[]:=List.eq_nil_of_length_eq_zero hl
 obtain ⟨_,_,g0⟩:=hty 0 0 _ rfl
 rw [qce] at g0
 obtain ⟨x0,rfl⟩:=qak Tryz.underlying3 (g0:DataW.trod _ _ _ _ _ _ _ _ [c0]=some _)
 obtain ⟨_,_,g1⟩:=hty 1 1 _ rfl
 rw [qce] at g1
 obtain ⟨x1,rfl⟩:=qak Tryz.underlying3 (g1:DataW.trod _ _ _ _ _ _ _ _ [c1]=some _)
 obtain ⟨_,_,g2⟩:=hty 2 2 _ rfl
 rw [qce] at g2
 obtain ⟨x2,rfl⟩:=qak Tryz.underlying3 (g2:DataW.trod _ _ _ _ _ _ _ _ [c2]=some _)
 obtain ⟨_,_,g3⟩:=hty 3 3 _ rfl
 rw [qce] at g3
 obtain ⟨x3,rfl⟩:=qak Tryz.underlying3 (g3:DataW.trod _ _ _ _ _ _ _ _ [c3]=some _)
 obtain ⟨_,_,g4⟩:=hty 4 4 _ rfl
 rw [qce] at g4
 obtain ⟨x4,rfl⟩:=qak Tryz.underlying3 (g4:DataW.trod _ _ _ _ _ _ _ _ [c4]=some _)
 obtain ⟨_,_,g5⟩:=hty 5 5 _ rfl
 rw [qce] at g5
 obtain ⟨x5,rfl⟩:=qak Tryz.underlying3 (g5:DataW.trod _ _ _ _ _ _ _ _ [c5]=some _)
 obtain ⟨_,_,g6⟩:=hty 6 6 _ rfl
 rw [qce] at g6
 obtain ⟨x6,rfl⟩:=qak Tryz.underlying3 (g6:DataW.trod _ _ _ _ _ _ _ _ [c6]=some _)
 obtain ⟨_,_,g7⟩:=hty 7 7 _ rfl
 rw [show Tryz.prog.cellsOf 22 = 1 by kernel_rfl] at g7
 obtain ⟨A7,e7,z7,rfl,r7,q7,s7,n7⟩:=qdh (en:=encE) (k:=10) (Q:=RdE0 w) Tryz.underlying22 (by rw [entC,entS]) encE_len (by decide) (fun _ _ _ h=>trod_ent h) (g7:DataW.trod _ _ _ _ _ _ _ _ [c7]=some _)
 obtain ⟨_,_,g8⟩:=hty 8 8 _ rfl
 rw [show Tryz.prog.cellsOf 23 = 1 by kernel_rfl] at g8
 obtain ⟨A8,e8,z8,rfl,r8,q8,s8,n8⟩:=qdh (en:=qbe) (k:=2) (Q:=fun _=>True) Tryz.underlying23 qvt (fun _=>rfl) (by decide) (fun _ _ _ h=>qpb h) (g8:DataW.trod _ _ _ _ _ _ _ _ [c8]=some _)
 obtain ⟨_,_,g9⟩:=hty 9 9 _ rfl
 rw [show Tryz.prog.cellsOf 24 = 1 by kernel_rfl] at g9
 obtain ⟨A9,e9,z9,rfl,r9,q9,s9,n9⟩:=qdh (en:=qcs) (k:=3) (Q:=RdKE w) Tryz.underlying24 keCel qrj (by decide) (fun _ _ _ h=>trod_ke h) (g9:DataW.trod _ _ _ _ _ _ _ _ [c9]=some _)
 obtain ⟨_,_,g10⟩:=hty 10 10 _ rfl
 rw [show Tryz.prog.cellsOf 25 = 1 by kernel_rfl] at g10
 obtain ⟨A10,e10,z10,rfl,r10,q10,s10,n10⟩:=qdh (en:=encW) (k:=1) (Q:=RdJ w) Tryz.underlying25 (by kernel_rfl) qpe (by decide) (fun _ _ _ h=>trod_il h) (g10:DataW.trod _ _ _ _ _ _ _ _ [c10]=some _)
 obtain ⟨_,_,g11⟩:=hty 11 11 _ rfl
 rw [show Tryz.prog.cellsOf 26 = 1 by kernel_rfl] at g11
 obtain ⟨a11,q11,r11⟩:=trod_il (g11:DataW.trod _ _ _ _ _ _ _ _ [c11]=some _)
 obtain rfl:c11=a11.v:=by simpa [encW] using q11
 obtain ⟨_,_,g12⟩:=hty 12 12 _ rfl
 rw [show Tryz.prog.cellsOf 27 = 1 by kernel_rfl] at g12
 obtain ⟨A12,e12,z12,rfl,r12,q12,s12,n12⟩:=qdh (en:=encW) (k:=1) (Q:=RdW encR 2 w) Tryz.underlying27 (by kernel_rfl) qpe (by decide) (fun _ _ _ h=>trod_rl h) (g12:DataW.trod _ _ _ _ _ _ _ _ [c12]=some _)
 obtain ⟨_,_,g13⟩:=hty 13 13 _ rfl
 rw [qvt] at g13
 obtain ⟨a13,q13,_⟩:=qpb (g13:DataW.trod _ _ _ _ _ _ _ _ [c13,c14]=some _)
 obtain ⟨rfl,rfl⟩:c13=.int .i64 a13.1∧c14=.int .i64 a13.2:=by simpa [qbe] using q13
 obtain ⟨_,_,g15⟩:=hty 14 15 _ rfl
 rw [qce] at g15
 obtain ⟨x15,rfl⟩:=qak Tryz.underlying3 (g15:DataW.trod _ _ _ _ _ _ _ _ [c15]=some _)
 obtain ⟨_,_,g16⟩:=hty 15 16 _ rfl
 rw [stoCel] at g16
 obtain ⟨a16,q16,r16,r17⟩:=trod_sto (g16:DataW.trod _ _ _ _ _ _ _ _ [c16,c17]=some _)
 obtain ⟨rfl,rfl⟩:c16=a16.1.v∧c17=a16.2.v:=by simpa [encSto] using q16
 exact ⟨⟨x0,x1,x2,x3,x4,x5,x6,⟨A7,e7,z7⟩,⟨A8,e8,z8⟩,⟨A9,e9,z9⟩,⟨A10,e10,z10⟩,a11,⟨A12,e12,z12⟩,a13.1,a13.2,x15,a16.1,a16.2⟩,rfl,
  ⟨r7,q7⟩,⟨r8,n8⟩,⟨r9,s9,n9⟩,q9,⟨r10,s10,n10⟩,q10,r11,⟨r12,s12,n12⟩,q12,r16,r17⟩
theorem open_rep {r:Reach} {b0:Nat} {v:Value} {d:DataW H} {p:List MemPlace} (hv:Value.okWide Tryz.prog w r b0 35 v) (h:DataW.Trod enc Tryz.prog w 0 (fun _=>true) true 35 v d p):∃ a:RP,v=.agg (encP a).toArray∧RdP w a:=by
 obtain ⟨cs,rfl,_⟩:=okWide_struct repUnd hv
 obtain ⟨fuel,hf⟩:=h
 obtain ⟨a,e,ha⟩:=trod_rep hf
 have e':cs.toList=encP a:=e
 exact ⟨a,by rw [←e'],ha⟩
end
end Go.Proofs.YtnmojicfmcbgmaaGreatDoor
