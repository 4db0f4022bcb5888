/- Texts that the law leans on. -/
import Derived.Test.YtlkmagmdhopcjaaGreatMOpenG
import Derived.Test.YtlkmagmdhopcjaaGreatMEnC
namespace Go.Proofs.YtlkmagmdhopcjaaGreat
open Go.ChangeShapes Go.WideShapes Go.ChangeAt Go.RowKit Go.Deep Go.Joins
set_option maxRecDepth 100000
theorem ackU:Tryz.prog.underlying 176 = some (.struct (Tryz.prog.fieldsOf 176)):=by kernel_rfl
theorem ackT:(Tryz.prog.fieldsOf 176).map (·.type)=#[3,3,3,3,3,3]:=by kernel_rfl
theorem ackO:oneCellFields Tryz.prog (Tryz.prog.fieldsOf 176)=true:=by kernel_rfl
theorem ackC:Tryz.prog.cellsOf 176 = (Tryz.prog.fieldsOf 176).size:=by kernel_rfl
theorem ackS:(Tryz.prog.fieldsOf 176).size=6:=by kernel_rfl
theorem entU:Tryz.prog.underlying 58 = some (.struct (Tryz.prog.fieldsOf 58)):=by kernel_rfl
theorem entT:(Tryz.prog.fieldsOf 58).map (·.type)=#[3,3,3,3,3,3,3,3,9,56]:=by kernel_rfl
theorem entO:oneCellFields Tryz.prog (Tryz.prog.fieldsOf 58)=true:=by kernel_rfl
theorem entC:Tryz.prog.cellsOf 58 = (Tryz.prog.fieldsOf 58).size:=by kernel_rfl
theorem entS:(Tryz.prog.fieldsOf 58).size=10:=by kernel_rfl
section
variable {H:Type} {enc:TypeId×Value→H} {w:World}
theorem qkc {a b:List Value} (n:Nat) (ha:a.length=n) (hb:b.length=n) (h:∀ j,j < n→a[j]?=b[j]?):a=b:=by
 apply List.ext_getElem?
 intro j
 rcases Nat.lt_or_ge j n with hj | hj
 ·exact h j hj
 ·rw [List.getElem?_eq_none (by omega),List.getElem?_eq_none (by omega)]
theorem trod_ack {n:Nat} {cs:List Value} {x:DataW H×List MemPlace} (h:DataW.trod enc Tryz.prog w 0 (fun _=>true) true n 176 cs=some x):∃ a:AK,cs=encK a∧True:=by
 obtain ⟨hl,hf⟩:=qiq ackU ackO ackC h
 rw [ackS] at hl
 have hty:∀ j u,(#[3,3,3,3,3,3]:Array TypeId)[j]?=some u→∃ c y m,cs[j]?=some c∧DataW.trod enc Tryz.prog w 0 (fun _=>true) true m u [c]=some y:=fun j u hj=>hf j u (by rw [←ackT,Array.getElem?_map] at hj;exact hj)
 obtain ⟨c0,_,_,k0,g0⟩:=hty 0 _ rfl
 obtain ⟨x0,rfl⟩:=qag Tryz.underlying3 g0
 obtain ⟨c1,_,_,k1,g1⟩:=hty 1 _ rfl
 obtain ⟨x1,rfl⟩:=qag Tryz.underlying3 g1
 obtain ⟨c2,_,_,k2,g2⟩:=hty 2 _ rfl
 obtain ⟨x2,rfl⟩:=qag Tryz.underlying3 g2
 obtain ⟨c3,_,_,k3,g3⟩:=hty 3 _ rfl
 obtain ⟨x3,rfl⟩:=qag Tryz.underlying3 g3
 obtain ⟨c4,_,_,k4,g4⟩:=hty 4 _ rfl
 obtain ⟨x4,rfl⟩:=qag Tryz.underlying3 g4
 obtain ⟨c5,_,_,k5,g5⟩:=hty 5 _ rfl
 obtain ⟨x5,rfl⟩:=qag Tryz.underlying3 g5
 refine ⟨⟨x0,x1,x2,x3,x4,x5⟩,qkc 6 hl rfl fun j hj=>?_,trivial⟩
 rcases (show j=0∨j=1∨j=2∨j=3∨j=4∨j=5 by omega) with rfl | rfl | rfl | rfl | rfl | rfl
 ·exact k0
 ·exact k1
 ·exact k2
 ·exact k3
 ·exact k4
 ·exact k5
theorem trod_ent {n:Nat} {cs:List Value} {x:DataW H×List MemPlace} (h:DataW.trod enc Tryz.prog w 0 (fun _=>true) true n 58 cs=some x):∃ a:EN,cs=encE a∧RdE0 w a:=by
 obtain ⟨hl,hf⟩:=qiq entU entO entC h
 rw [entS] at hl
 have hty:∀ j u,(#[3,3,3,3,3,3,3,3,9,56]:Array TypeId)[j]?=some u→∃ c y m,cs[j]?=some c∧DataW.trod enc Tryz.prog w 0 (fun _=>true) true m u [c]=some y:=fun j u hj=>hf j u (by rw [←entT,Array.getElem?_map] at hj;exact hj)
 obtain ⟨c0,_,_,k0,g0⟩:=hty 0 _ rfl
 obtain ⟨x0,rfl⟩:=qag Tryz.underlying3 g0
 obtain ⟨c1,_,_,k1,g1⟩:=hty 1 _ rfl
 obtain ⟨x1,rfl⟩:=qag Tryz.underlying3 g1
 obtain ⟨c2,_,_,k2,g2⟩:=hty 2 _ rfl
 obtain ⟨x2,rfl⟩:=qag Tryz.underlying3 g2
 obtain ⟨c3,_,_,k3,g3⟩:=hty 3 _ rfl
 obtain ⟨x3,rfl⟩:=qag Tryz.underlying3 g3
 obtain ⟨c4,_,_,k4,g4⟩:=hty 4 _ rfl
 obtain ⟨x4,rfl⟩:=qag Tryz.underlying3 g4
 obtain ⟨c5,_,_,k5,g5⟩:=hty 5 _ rfl
 obtain ⟨x5,rfl⟩:=qag Tryz.underlying3 g5
 obtain ⟨c6,_,_,k6,g6⟩:=hty 6 _ rfl
 obtain ⟨x6,rfl⟩:=qag Tryz.underlying3 g6
 obtain ⟨c7,_,_,k7,g7⟩:=hty 7 _ rfl
 obtain ⟨x7,rfl⟩:=qag Tryz.underlying3 g7
 obtain ⟨c8,_,_,k8,g8⟩:=hty 8 _ rfl
 obtain ⟨x8,rfl⟩:=qgo Tryz.underlying9 g8
 obtain ⟨c9,_,_,k9,g9⟩:=hty 9 _ rfl
 obtain ⟨A,c,z,rfl,hz,_,hc,_⟩:=qcu (en:=encK) (k:=6) (Q:=fun _=>True) Tryz.underlying56 (by rw [ackC,ackS]) qvt (by decide) (fun _ _ _ h=>trod_ack h) g9
 refine ⟨⟨x0,x1,x2,x3,x4,x5,x6,x7,x8,A,c,z⟩,qkc 10 hl rfl fun j hj=>?_,⟨hz,hc⟩⟩
 rcases (show j=0∨j=1∨j=2∨j=3∨j=4∨j=5∨j=6∨j=7∨j=8∨j=9 by omega) with rfl | rfl | rfl | rfl | rfl | rfl | rfl | rfl | rfl | rfl
 ·exact k0
 ·exact k1
 ·exact k2
 ·exact k3
 ·exact k4
 ·exact k5
 ·exact k6
 ·exact k7
 ·exact k8
 ·exact k9
end
end Go.Proofs.YtlkmagmdhopcjaaGreat
