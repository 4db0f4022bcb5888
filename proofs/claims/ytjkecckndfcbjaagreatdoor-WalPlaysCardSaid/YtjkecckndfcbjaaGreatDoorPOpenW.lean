/- Texts that the law leans on. -/
import Derived.Test.YtjkecckndfcbjaaGreatDoorPOpenG
import Derived.Test.YtjkecckndfcbjaaGreatDoorPFewA
namespace Go.Proofs.YtjkecckndfcbjaaGreatDoor
open Go.ChangeShapes Go.WideShapes Go.ChangeAt Go.RowKit Go.Deep Go.Joins
set_option maxRecDepth 100000
section
variable {H:Type} {enc:TypeId×Value→H} {P:Program} {w:World} {base:Nat} {sp:Nat→Bool} {held:Bool}
theorem qex {t:TypeId} {fs:Array Field} {n:Nat} {cs:List Value} {x:DataW H×List MemPlace} (hs:P.underlying t=some (.struct fs))
 (h:DataW.trod enc P w base sp held n t cs=some x):cs.length=P.cellsOf t∧∀ (j o:Nat) (u:TypeId),(fs[j]?).map (fun f=>(f.offset,f.type))=some (o,u)→∃ y m,DataW.trod enc P w base sp held m u ((cs.drop o).take (P.cellsOf u))=some y:=by
 obtain ⟨xs,m,_,_,hcl,hlen,hg⟩:=DataW.trod_struct hs h
 refine ⟨hcl,fun j o u hj=>?_⟩
 obtain ⟨f,hf1,hf2⟩:=Option.map_eq_some_iff.1 hj
 injection hf2 with e1 e2
 have hjl:j < fs.size:=(Array.getElem?_eq_some_iff.1 hf1).1
 have h1:=hg j f hf1
 rw [e1,e2] at h1
 have hys:xs[j]?=some (xs[j]'(by omega)):=List.getElem?_eq_getElem (by omega)
 exact ⟨xs[j]'(by omega),m,h1.trans hys⟩
theorem qlq {t:TypeId} {v:Value} {n:Nat} {y:DataW H×List MemPlace} (ht:P.underlying t=some .bool) (h:DataW.trod enc P w base sp held n t [v]=some y):∃ x:Bool,v=.bool x:=by
 obtain ⟨a,e0,_,_⟩:=DataW.trod_bool ht h
 exact ⟨a,by simpa using e0⟩
end
theorem qhx:Tryz.prog.cellsOf 3 = 1:=by kernel_rfl
theorem qjw:Tryz.prog.cellsOf 9 = 1:=by kernel_rfl
theorem celBool_W:Tryz.prog.cellsOf 4 = 1:=by kernel_rfl
section
variable {H:Type} {enc:TypeId×Value→H} {w:World} {base:Nat} {sp:Nat→Bool} {held:Bool}
def encCH (x:CH):List Value:=[.int .i64 x.keep,.string x.trash,.bool x.reset]
def encEV (x:EV):List Value:=[.int .i64 x.1,.string x.2]
theorem chWUnd:Tryz.prog.underlying 58 = some (.struct (Tryz.prog.fieldsOf 58)):=by kernel_rfl
theorem chWTys:(Tryz.prog.fieldsOf 58).map (fun f=>(f.offset,f.type))=#[(0,3),(1,9),(2,4)]:=by kernel_rfl
theorem chWCel:Tryz.prog.cellsOf 58 = 3:=by kernel_rfl
theorem qva {n:Nat} {cs:List Value} {x:DataW H×List MemPlace} (h:DataW.trod enc Tryz.prog w base sp held n 58 cs=some x):∃ a:CH,cs=encCH a:=by
 obtain ⟨hl,hf⟩:=qex chWUnd h
 rw [chWCel] at hl
 have hty:∀ j o u,(#[(0,3),(1,9),(2,4)]:Array (Nat×TypeId))[j]?=some (o,u)→∃ y m,DataW.trod enc Tryz.prog w base sp held m u ((cs.drop o).take (Tryz.prog.cellsOf u))=some y:=fun j o u hj=>hf j o u (by rw [←chWTys,Array.getElem?_map] at hj;exact hj)
 clear hf h
 obtain ⟨c0,cs,rfl⟩:=List.exists_cons_of_length_eq_add_one hl
 have hl:=Nat.succ.inj hl
 obtain ⟨c1,cs,rfl⟩:=List.exists_cons_of_length_eq_add_one hl
 have hl:=Nat.succ.inj hl
 obtain ⟨c2,cs,rfl⟩:=List.exists_cons_of_length_eq_add_one hl
 have hl:=Nat.succ.inj hl
 obtain rfl:cs=[]:=List.eq_nil_of_length_eq_zero hl
 obtain ⟨_,_,g0⟩:=hty 0 0 _ rfl
 rw [qhx] at g0
 obtain ⟨x0,rfl⟩:=qdr Tryz.underlying3 (g0:DataW.trod _ _ _ _ _ _ _ _ [c0]=some _)
 obtain ⟨_,_,g1⟩:=hty 1 1 _ rfl
 rw [qjw] at g1
 obtain ⟨x1,rfl⟩:=qej Tryz.underlying9 (g1:DataW.trod _ _ _ _ _ _ _ _ [c1]=some _)
 obtain ⟨_,_,g2⟩:=hty 2 2 _ rfl
 rw [celBool_W] at g2
 obtain ⟨x2,rfl⟩:=qlq Tryz.underlying4 (g2:DataW.trod _ _ _ _ _ _ _ _ [c2]=some _)
 exact ⟨⟨x0,x1,x2⟩,rfl⟩
theorem evWUnd:Tryz.prog.underlying 56 = some (.struct (Tryz.prog.fieldsOf 56)):=by kernel_rfl
theorem evWTys:(Tryz.prog.fieldsOf 56).map (fun f=>(f.offset,f.type))=#[(0,3),(1,9)]:=by kernel_rfl
theorem evWCel:Tryz.prog.cellsOf 56 = 2:=by kernel_rfl
theorem trod_evW {n:Nat} {cs:List Value} {x:DataW H×List MemPlace} (h:DataW.trod enc Tryz.prog w base sp held n 56 cs=some x):∃ a:EV,cs=encEV a:=by
 obtain ⟨hl,hf⟩:=qex evWUnd h
 rw [evWCel] at hl
 have hty:∀ j o u,(#[(0,3),(1,9)]:Array (Nat×TypeId))[j]?=some (o,u)→∃ y m,DataW.trod enc Tryz.prog w base sp held m u ((cs.drop o).take (Tryz.prog.cellsOf u))=some y:=fun j o u hj=>hf j o u (by rw [←evWTys,Array.getElem?_map] at hj;exact hj)
 clear hf h
 obtain ⟨c0,cs,rfl⟩:=List.exists_cons_of_length_eq_add_one hl
 have hl:=Nat.succ.inj hl
 obtain ⟨c1,cs,rfl⟩:=List.exists_cons_of_length_eq_add_one hl
 have hl:=Nat.succ.inj hl
 obtain rfl:cs=[]:=List.eq_nil_of_length_eq_zero hl
 obtain ⟨_,_,g0⟩:=hty 0 0 _ rfl
 rw [qhx] at g0
 obtain ⟨x0,rfl⟩:=qdr Tryz.underlying3 (g0:DataW.trod _ _ _ _ _ _ _ _ [c0]=some _)
 obtain ⟨_,_,g1⟩:=hty 1 1 _ rfl
 rw [qjw] at g1
 obtain ⟨x1,rfl⟩:=qej Tryz.underlying9 (g1:DataW.trod _ _ _ _ _ _ _ _ [c1]=some _)
 exact ⟨(x0,x1),rfl⟩
theorem ocWUnd:Tryz.prog.underlying 60 = some (.struct (Tryz.prog.fieldsOf 60)):=by kernel_rfl
theorem ocWTys:(Tryz.prog.fieldsOf 60).map (fun f=>(f.offset,f.type))=#[(0,3),(1,3),(2,9),(3,58),(6,58)]:=by kernel_rfl
theorem ocWCel:Tryz.prog.cellsOf 60 = 9:=by kernel_rfl
theorem trod_ocW {n:Nat} {cs:List Value} {x:DataW H×List MemPlace} (h:DataW.trod enc Tryz.prog w base sp held n 60 cs=some x):∃ a:AC,cs=qit a:=by
 obtain ⟨hl,hf⟩:=qex ocWUnd h
 rw [ocWCel] at hl
 have hty:∀ j o u,(#[(0,3),(1,3),(2,9),(3,58),(6,58)]:Array (Nat×TypeId))[j]?=some (o,u)→∃ y m,DataW.trod enc Tryz.prog w base sp held m u ((cs.drop o).take (Tryz.prog.cellsOf u))=some y:=fun j o u hj=>hf j o u (by rw [←ocWTys,Array.getElem?_map] at hj;exact hj)
 clear hf h
 obtain ⟨c0,cs,rfl⟩:=List.exists_cons_of_length_eq_add_one hl
 have hl:=Nat.succ.inj hl
 obtain ⟨c1,cs,rfl⟩:=List.exists_cons_of_length_eq_add_one hl
 have hl:=Nat.succ.inj hl
 obtain ⟨c2,cs,rfl⟩:=List.exists_cons_of_length_eq_add_one hl
 have hl:=Nat.succ.inj hl
 obtain ⟨c3,cs,rfl⟩:=List.exists_cons_of_length_eq_add_one hl
 have hl:=Nat.succ.inj hl
 obtain ⟨c4,cs,rfl⟩:=List.exists_cons_of_length_eq_add_one hl
 have hl:=Nat.succ.inj hl
 obtain ⟨c5,cs,rfl⟩:=List.exists_cons_of_length_eq_add_one hl
 have hl:=Nat.succ.inj hl
 obtain ⟨c6,cs,rfl⟩:=List.exists_cons_of_length_eq_add_one hl
 have hl:=Nat.succ.inj hl
 obtain ⟨c7,cs,rfl⟩:=List.exists_cons_of_length_eq_add_one hl
 have hl:=Nat.succ.inj hl
 obtain ⟨c8,cs,rfl⟩:=List.exists_cons_of_length_eq_add_one hl
 have hl:=Nat.succ.inj hl
 obtain rfl:cs=[]:=List.eq_nil_of_length_eq_zero hl
 obtain ⟨_,_,g0⟩:=hty 0 0 _ rfl
 rw [qhx] at g0
 obtain ⟨x0,rfl⟩:=qdr Tryz.underlying3 (g0:DataW.trod _ _ _ _ _ _ _ _ [c0]=some _)
 obtain ⟨_,_,g1⟩:=hty 1 1 _ rfl
 rw [qhx] at g1
 obtain ⟨x1,rfl⟩:=qdr Tryz.underlying3 (g1:DataW.trod _ _ _ _ _ _ _ _ [c1]=some _)
 obtain ⟨_,_,g2⟩:=hty 2 2 _ rfl
 rw [qjw] at g2
 obtain ⟨x2,rfl⟩:=qej Tryz.underlying9 (g2:DataW.trod _ _ _ _ _ _ _ _ [c2]=some _)
 obtain ⟨_,_,g3⟩:=hty 3 3 _ rfl
 rw [chWCel] at g3
 obtain ⟨x3,e3⟩:=qva (g3:DataW.trod _ _ _ _ _ _ _ _ [c3,c4,c5]=some _)
 unfold encCH at e3
 cases e3
 obtain ⟨_,_,g4⟩:=hty 4 6 _ rfl
 rw [chWCel] at g4
 obtain ⟨x6,e4⟩:=qva (g4:DataW.trod _ _ _ _ _ _ _ _ [c6,c7,c8]=some _)
 unfold encCH at e4
 cases e4
 exact ⟨⟨0,(0,⟨#[]⟩),⟨#[]⟩,x0,x1,x2,x3,x6⟩,rfl⟩
theorem acWUnd:Tryz.prog.underlying 62 = some (.struct (Tryz.prog.fieldsOf 62)):=by kernel_rfl
theorem acWTys:(Tryz.prog.fieldsOf 62).map (fun f=>(f.offset,f.type))=#[(0,3),(1,56),(3,9),(4,60)]:=by kernel_rfl
theorem acWCel:Tryz.prog.cellsOf 62 = 13:=by kernel_rfl
theorem trod_acW {n:Nat} {cs:List Value} {x:DataW H×List MemPlace} (h:DataW.trod enc Tryz.prog w base sp held n 62 cs=some x):∃ a:AC,cs=qhm a∧True:=by
 obtain ⟨hl,hf⟩:=qex acWUnd h
 rw [acWCel] at hl
 have hty:∀ j o u,(#[(0,3),(1,56),(3,9),(4,60)]:Array (Nat×TypeId))[j]?=some (o,u)→∃ y m,DataW.trod enc Tryz.prog w base sp held m u ((cs.drop o).take (Tryz.prog.cellsOf u))=some y:=fun j o u hj=>hf j o u (by rw [←acWTys,Array.getElem?_map] at hj;exact hj)
 clear hf h
 obtain ⟨c0,cs,rfl⟩:=List.exists_cons_of_length_eq_add_one hl
 have hl:=Nat.succ.inj hl
 obtain ⟨c1,cs,rfl⟩:=List.exists_cons_of_length_eq_add_one hl
 have hl:=Nat.succ.inj hl
 obtain ⟨c2,cs,rfl⟩:=List.exists_cons_of_length_eq_add_one hl
 have hl:=Nat.succ.inj hl
 obtain ⟨c3,cs,rfl⟩:=List.exists_cons_of_length_eq_add_one hl
 have hl:=Nat.succ.inj hl
 obtain ⟨c4,cs,rfl⟩:=List.exists_cons_of_length_eq_add_one hl
 have hl:=Nat.succ.inj hl
 obtain ⟨c5,cs,rfl⟩:=List.exists_cons_of_length_eq_add_one hl
 have hl:=Nat.succ.inj hl
 obtain ⟨c6,cs,rfl⟩:=List.exists_cons_of_length_eq_add_one hl
 have hl:=Nat.succ.inj hl
 obtain ⟨c7,cs,rfl⟩:=List.exists_cons_of_length_eq_add_one hl
 have hl:=Nat.succ.inj hl
 obtain ⟨c8,cs,rfl⟩:=List.exists_cons_of_length_eq_add_one hl
 have hl:=Nat.succ.inj hl
 obtain ⟨c9,cs,rfl⟩:=List.exists_cons_of_length_eq_add_one hl
 have hl:=Nat.succ.inj hl
 obtain ⟨c10,cs,rfl⟩:=List.exists_cons_of_length_eq_add_one hl
 have hl:=Nat.succ.inj hl
 obtain ⟨c11,cs,rfl⟩:=List.exists_cons_of_length_eq_add_one hl
 have hl:=Nat.succ.inj hl
 obtain ⟨c12,cs,rfl⟩:=List.exists_cons_of_length_eq_add_one hl
 have hl:=Nat.succ.inj hl
 obtain rfl:cs=[]:=List.eq_nil_of_length_eq_zero hl
 obtain ⟨_,_,g0⟩:=hty 0 0 _ rfl
 rw [qhx] at g0
 obtain ⟨x0,rfl⟩:=qdr Tryz.underlying3 (g0:DataW.trod _ _ _ _ _ _ _ _ [c0]=some _)
 obtain ⟨_,_,g1⟩:=hty 1 1 _ rfl
 rw [evWCel] at g1
 obtain ⟨x1,e1⟩:=trod_evW (g1:DataW.trod _ _ _ _ _ _ _ _ [c1,c2]=some _)
 unfold encEV at e1
 cases e1
 obtain ⟨_,_,g2⟩:=hty 2 3 _ rfl
 rw [qjw] at g2
 obtain ⟨x3,rfl⟩:=qej Tryz.underlying9 (g2:DataW.trod _ _ _ _ _ _ _ _ [c3]=some _)
 obtain ⟨_,_,g3⟩:=hty 3 4 _ rfl
 rw [ocWCel] at g3
 obtain ⟨x4,e3⟩:=trod_ocW (g3:DataW.trod _ _ _ _ _ _ _ _ [c4,c5,c6,c7,c8,c9,c10,c11,c12]=some _)
 unfold qit at e3
 cases e3
 exact ⟨⟨x0,x1,x3,x4.ok,x4.n,x4.ot,x4.a,x4.b⟩,rfl,trivial⟩
end
section
variable {H:Type} {enc:TypeId×Value→H} {w:World} {r:Reach} {b0:Nat} {v:Value} {d:DataW H} {p:List MemPlace}
theorem open_acts (hv:Value.okWide Tryz.prog w r b0 22 v) (h:DataW.Trod enc Tryz.prog w 0 (fun _=>true) true 22 v d p) :
 ∃ (A:Option Addr) (c:Nat) (z:Array AC),v=.slice A z.size c∧RdK qhm 13 w.heap.size w A z:=by
 obtain ⟨a0,len,cap,rfl⟩:=okWide_slice Tryz.underlying22 hv
 obtain ⟨fuel,hf⟩:=h
 obtain ⟨A,c,z,e,hz,-,-,-⟩:=trod_row (en:=qhm) (k:=13) (Q:=fun _=>True) Tryz.underlying22 acWCel (fun _=>rfl) (by decide) (fun _ _ _ h=>trod_acW h) hf
 exact ⟨A,c,z,e,hz⟩
end
end Go.Proofs.YtjkecckndfcbjaaGreatDoor
