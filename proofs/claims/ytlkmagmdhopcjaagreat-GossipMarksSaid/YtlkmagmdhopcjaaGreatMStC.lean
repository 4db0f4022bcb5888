/- Texts that the law leans on. -/
import Derived.Test.YtlkmagmdhopcjaaGreatMRead
import Derived.Test.YtlkmagmdhopcjaaGreatMBoxG
namespace Go.Proofs.YtlkmagmdhopcjaaGreat
open Go.RowKit Go.Sort Go.Lib
set_option maxRecDepth 100000
section
variable {P:Program} {w:World} {ops:Array Oper} {rest:List Oper} {o:Oper} {a:Act} {Q:Exit→Act→World→Prop}
theorem qkw (hg:o.guard=none) (t:TypeId) (x:Operand) (ho:o.op=.build t #[(0,x)]) (cs:Array Value) (hx:a.eval x=.agg cs) (hb:P.built t [(0,.agg cs)]=some cs)
 (h:wpList P ops Q rest (a.put o.dst (.agg cs)) w):wpList P ops Q (o :: rest) a w:=by
 have e:P.built t ((#[(0,x)]:Array (Nat×Operand)).map fun (i,x)=>(i,a.eval x)).toList=some cs:=by simpa [hx] using hb
 refine wpList_build hg t _ ho (by rw [e];rfl) ?_
 rw [e]
 exact h
end
def qmz (t:TypeId) (v:Value):Sem Value:=Instr.loadAt t v
def qgx (t:TypeId) (v x:Value):Sem Unit:=Instr.storeAt t v x
theorem qak (ρ:Operand→Value) (dst:Option Tmp) (x:Operand) (ty:TypeId) (pos:String) (after:Array Edge) (guard:Option (Nat×Bool)) :
 execOp ρ { dst,op:=.load 35 x,type:=ty,pos,after,guard }=(do pure (.value (← qmz 35 (ρ x)))):=rfl
theorem qai (ρ:Operand→Value) (dst:Option Tmp) (x y:Operand) (ty:TypeId) (pos:String) (after:Array Edge) (guard:Option (Nat×Bool)) :
 execOp ρ { dst,op:=.store 35 x y,type:=ty,pos,after,guard }=(do qgx 35 (ρ x) (ρ y);pure .skip):=rfl
theorem qao (W:World) (g:Nat) (h:qap W g 18=true):(qmz 35 (.pointer (some ⟨g,0,none⟩))).run Tryz.prog W=.ok (.agg (rowAt W g)) W:=by
 obtain ⟨t,h1,h2⟩:=qey h
 simp only [qmz,Instr.loadAt,Instr.sureAddr,Sem.run_bind,Sem.run_pure,Result.andThen]
 exact run_loadVar_row W g t 35 _ (0,0) _ h1 Tryz.underlying35 rfl (by rw [h2];kernel_rfl)
theorem qdn (W:World) (g:Nat) (zs cs:Array Value) (hg:W.heap.size=g) (hz:zs.size=18) (hc:cs.size=18) (h1:cs.all (·.oneCell')=true) :
 (qgx 35 (.pointer (some ⟨g,0,none⟩)) (.agg cs)).run Tryz.prog (W.alloc (.cells zs 35))=.ok () (W.alloc (.cells cs 35)):=by
 subst hg
 exact run_storeAt_new W 35 zs cs (by rw [hc];kernel_rfl) (by rw [hz,hc]) h1
theorem quf (r:RP):Tryz.prog.built 95 [(0,.agg (encP r).toArray)]=some (encP r).toArray:=by kernel_rfl
theorem qwb (r:RP):(encP r).toArray.all (·.oneCell')=true:=by simp [encP,Value.oneCell']
set_option maxHeartbeats 800000 in
theorem qsf (r:RP) (w:World) (b1 b2 b3 b4:Bool)
 (hC:∀ W,Below w.heap.size w W→Calls Tryz.prog 49 #[.agg (encP r).toArray] W fun e w'=>e=.returned (.bool b1)∧Below W.heap.size W w')
 (hM:∀ W,Below w.heap.size w W→Calls Tryz.prog 50 #[.agg (encP r).toArray] W fun e w'=>e=.returned (.bool b2)∧Below W.heap.size W w')
 (hH:∀ W,Below w.heap.size w W→Calls Tryz.prog 51 #[.agg (encP r).toArray] W fun e w'=>e=.returned (.bool b3)∧Below W.heap.size W w')
 (hN:∀ W,Below w.heap.size w W→Calls Tryz.prog 52 #[.agg (encP r).toArray] W fun e w'=>e=.returned (.bool b4)∧Below W.heap.size W w') :
 Calls Tryz.prog 15 #[.agg (encP r).toArray] w fun e w'=>e=.returned (.int .i64 (if (b1 && b2 && b3 && b4)=true then 0 else 2))∧Below w.heap.size w w':=by
 have HC:=hI hC
 have HM:=hI hM
 have HH:=hI hH
 have HN:=hI hN
 obtain ⟨x,hx⟩:∃ x:Int,x=(if (b1 && b2 && b3 && b4)=true then 0 else 2):=⟨_,rfl⟩
 rw [←hx]
 have HE:=hI hx
 clear hC hM hH hN hx
 obtain ⟨cs,hcs⟩:∃ cs,cs=(encP r).toArray:=⟨_,rfl⟩
 have HI:cs.size=18:=by rw [hcs];rfl
 have H1:cs.all (·.oneCell')=true:=by rw [hcs];exact qwb r
 have HZ:(Tryz.prog.info? 35).map (·.size)=some cs.size:=by rw [HI];kernel_rfl
 have HZ2:(Tryz.prog.info? 95).map (·.size)=some cs.size:=by rw [HI];kernel_rfl
 have HBL:Tryz.prog.built 95 [(0,.agg cs)]=some cs:=by rw [hcs];exact quf r
 rw [←hcs] at HC HM HH HN ⊢
 have HCS:=hI hcs
 simp only [encP] at hcs
 rw [hcs]
 go_enter Tryz.func15,Tryz.ntmps15
 rw [←hcs]
 clear hcs
 have HG0:=heap_alloc_new w (.cells cs 35)
 have HG1:=heap_alloc2_new w (.cells cs 35) (.cells cs 95)
 have HST:∀ zs:Array Value,zs.size=18→(storeCells ⟨w.heap.size + 1,0,none⟩ cs.toList).run Tryz.prog ((w.alloc (.cells cs 35)).alloc (.cells zs 95))=.ok () ((w.alloc (.cells cs 35)).alloc (.cells cs 95)):=fun zs hz=>by
  have:=run_storeCells_new (P:=Tryz.prog) (w.alloc (.cells cs 35)) 95 zs cs HZ2 (by rw [hz,HI]) H1
  simpa using this
 go_wp2_with (first
  | (with_reducible refine wpList_load_row rfl 35 _ rfl w.heap.size rfl 35 cs (0,0) _ HG0 Tryz.underlying35 rfl HZ ?_)
  | (with_reducible refine wpList_load_row rfl 95 _ rfl (w.heap.size + 1) rfl 95 cs (0,0) _ HG1 Tryz.underlying95 rfl HZ2 ?_)
  | (with_reducible refine qkw rfl 95 _ rfl cs rfl HBL ?_)
  | fail)
 have hrow:=heap_alloc_new ((w.alloc (.cells cs 35)).alloc (.cells cs 95)) (.cells #[.func (.func 49) #[.agg cs] #[],.func (.func 50) #[.agg cs] #[],.func (.func 51) #[.agg cs] #[],.func (.func 52) #[.agg cs] #[]] 40)
 have hB:Below w.heap.size w (((w.alloc (.cells cs 35)).alloc (.cells cs 95)).alloc (.cells #[.func (.func 49) #[.agg cs] #[],.func (.func 50) #[.agg cs] #[],.func (.func 51) #[.agg cs] #[],.func (.func 52) #[.agg cs] #[]] 40)):=qab (qab (bel1 w _) _) _
 have hsz:(((w.alloc (.cells cs 35)).alloc (.cells cs 95)).alloc (.cells #[.func (.func 49) #[.agg cs] #[],.func (.func 50) #[.agg cs] #[],.func (.func 51) #[.agg cs] #[],.func (.func 52) #[.agg cs] #[]] 40)).heap.size=w.heap.size + 3:=by simp
 rw [show ((w.alloc (.cells cs 35)).alloc (.cells cs 95)).heap.size=w.heap.size + 2 by simp] at hrow
 generalize ((w.alloc (.cells cs 35)).alloc (.cells cs 95)).alloc (.cells #[.func (.func 49) #[.agg cs] #[],.func (.func 50) #[.agg cs] #[],.func (.func 51) #[.agg cs] #[],.func (.func 52) #[.agg cs] #[]] 40)=w3 at hrow hB hsz ⊢
 have f0:w3.cell? ⟨w.heap.size + 2,0,none⟩=some (.func (.func 49) #[.agg cs] #[]):=(cell_of_row w3 _ 0 _ _ (0,0) hrow).trans rfl
 have f1:w3.cell? ⟨w.heap.size + 2,1,none⟩=some (.func (.func 50) #[.agg cs] #[]):=(cell_of_row w3 _ 1 _ _ (0,0) hrow).trans rfl
 have f2:w3.cell? ⟨w.heap.size + 2,2,none⟩=some (.func (.func 51) #[.agg cs] #[]):=(cell_of_row w3 _ 2 _ _ (0,0) hrow).trans rfl
 have f3:w3.cell? ⟨w.heap.size + 2,3,none⟩=some (.func (.func 52) #[.agg cs] #[]):=(cell_of_row w3 _ 3 _ _ (0,0) hrow).trans rfl
 have hl:w.heap.size + 2 < w3.heap.size:=by omega
 have HB:=hI hB
 clear hrow hB hsz HG0 HG1 HZ HZ2 HBL HI H1 HST
 refine wp_loop_rounds 5 ?_
 rw [rounds_succ]
 cases b1
 ·go_wp2_with (go_at_call 49;refine (HC.out _ HB.out).mono ?_;rintro _ w4 ⟨rfl,hb⟩;have HB:=hI (qaa HB.out hb);clear hb)
  go_ret
  refine ⟨qan ?_,HB.out⟩
  rw [HE.out]
  simp
 go_wp2_with (go_at_call 49;refine (HC.out _ HB.out).mono ?_;rintro _ w4 ⟨rfl,hb⟩;have HB:=hI (qaa HB.out hb);have f1:=(hb.cell (p:=⟨w.heap.size + 2,1,none⟩) hl).trans f1;have f2:=(hb.cell (p:=⟨w.heap.size + 2,2,none⟩) hl).trans f2;have f3:=(hb.cell (p:=⟨w.heap.size + 2,3,none⟩) hl).trans f3;have hl:=Nat.lt_of_lt_of_le hl hb.size;clear hb)
 rw [rounds_succ]
 cases b2
 ·go_wp2_with (go_at_call 50;refine (HM.out _ HB.out).mono ?_;rintro _ w5 ⟨rfl,hb⟩;have HB:=hI (qaa HB.out hb);clear hb)
  go_ret
  refine ⟨qan ?_,HB.out⟩
  rw [HE.out]
  simp
 go_wp2_with (go_at_call 50;refine (HM.out _ HB.out).mono ?_;rintro _ w5 ⟨rfl,hb⟩;have HB:=hI (qaa HB.out hb);have f2:=(hb.cell (p:=⟨w.heap.size + 2,2,none⟩) hl).trans f2;have f3:=(hb.cell (p:=⟨w.heap.size + 2,3,none⟩) hl).trans f3;have hl:=Nat.lt_of_lt_of_le hl hb.size;clear hb)
 rw [rounds_succ]
 cases b3
 ·go_wp2_with (go_at_call 51;refine (HH.out _ HB.out).mono ?_;rintro _ w6 ⟨rfl,hb⟩;have HB:=hI (qaa HB.out hb);clear hb)
  go_ret
  refine ⟨qan ?_,HB.out⟩
  rw [HE.out]
  simp
 go_wp2_with (go_at_call 51;refine (HH.out _ HB.out).mono ?_;rintro _ w6 ⟨rfl,hb⟩;have HB:=hI (qaa HB.out hb);have f3:=(hb.cell (p:=⟨w.heap.size + 2,3,none⟩) hl).trans f3;have hl:=Nat.lt_of_lt_of_le hl hb.size;clear hb)
 rw [rounds_succ]
 cases b4
 ·go_wp2_with (go_at_call 52;refine (HN.out _ HB.out).mono ?_;rintro _ w7 ⟨rfl,hb⟩;have HB:=hI (qaa HB.out hb);clear hb)
  go_ret
  refine ⟨qan ?_,HB.out⟩
  rw [HE.out]
  simp
 go_wp2_with (go_at_call 52;refine (HN.out _ HB.out).mono ?_;rintro _ w7 ⟨rfl,hb⟩;have HB:=hI (qaa HB.out hb);have hl:=Nat.lt_of_lt_of_le hl hb.size;clear hb)
 rw [rounds_succ]
 go_wp2
 go_ret
 refine ⟨qan ?_,HB.out⟩
 rw [HE.out]
 simp
end Go.Proofs.YtlkmagmdhopcjaaGreat
