/- Texts that the law leans on. -/
import Derived.Test.YtdcfffhoajmafaaGreatQRead
import Derived.Test.YtdcfffhoajmafaaGreatQBoxG
set_option maxRecDepth 100000
set_option maxHeartbeats 800000
namespace Go.Proofs.YtdcfffhoajmafaaGreat
open Go.RowKit Go.Sort Go.Lib Go.Proofs.Tryz
section
variable {P:Program} {w:World} {ops:Array Oper} {rest:List Oper} {o:Oper} {a:Act} {Q:Exit->Act->World->Prop}
theorem qln (c:o.guard=none) (t:TypeId) (x:Operand) (d:o.op=.build t #[(0,x)]) (cs:Array Value) (f:a.eval x=.agg cs) (b:P.built t [(0,.agg cs)]=some cs)
 (h:wpList P ops Q rest (a.put o.dst (.agg cs)) w):wpList P ops Q (o :: rest) a w:=by
 have e:P.built t ((#[(0,x)]:Array (Nat×Operand)).map fun (i,x)=>(i,a.eval x)).toList=some cs:=by simpa [f] using b
 refine wpList_build c t _ d (by rw [e];rfl) ?_;rw [e];exact h
end
def qvn (t:TypeId) (v:Value):Sem Value:=Instr.loadAt t v
def qkd (t:TypeId) (v x:Value):Sem Unit:=Instr.storeAt t v x
theorem qap (ρ:Operand->Value) (dst:Option Tmp) (x:Operand) (a:TypeId) (pos:String) (after:Array Edge) (guard:Option (Nat×Bool)) :
 execOp ρ { dst,op:=.load 35 x,type:=a,pos,after,guard }=(do pure (.value (<- qvn 35 (ρ x)))):=rfl
theorem qan (ρ:Operand->Value) (dst:Option Tmp) (x y:Operand) (a:TypeId) (pos:String) (after:Array Edge) (guard:Option (Nat×Bool)) :
 execOp ρ { dst,op:=.store 35 x y,type:=a,pos,after,guard }=(do qkd 35 (ρ x) (ρ y);pure .skip):=rfl
theorem qaw (W:World) (g:Nat) (h:qdd W g 18=true):(qvn 35 (.pointer (some ⟨g,0,none⟩))).run prog W=.ok (.agg (rowAt W g)) W:=by
 obtain ⟨t,a,b⟩:=qjk h;simp only [qvn,Instr.loadAt,Instr.sureAddr,Sem.run_bind,Sem.run_pure,Result.andThen];exact vek W g t 35 _ (0,0) _ a underlying35 rfl (by rw [b];kernel_rfl)
theorem qej (W:World) (g:Nat) (zs cs:Array Value) (c:W.heap.size=g) (d:zs.size=18) (a:cs.size=18) (b:cs.all (·.oneCell')=true) :
 (qkd 35 (.pointer (some ⟨g,0,none⟩)) (.agg cs)).run prog (W.alloc (.cells zs 35))=.ok () (W.alloc (.cells cs 35)):=by
 subst c;exact run_storeAt_new W 35 zs cs (by rw [a];kernel_rfl) (by rw [d,a]) b
theorem qvo (r:RP):prog.built 95 [(0,.agg (encP r).toArray)]=some (encP r).toArray:=by kernel_rfl
theorem qxv (r:RP):(encP r).toArray.all (·.oneCell')=true:=by simp [encP,Value.oneCell']
theorem qta (r:RP) (w:World) (t u v y:Bool)
 (K:∀ W,Below w.heap.size w W->Calls prog 49 #[.agg (encP r).toArray] W fun e h=>e=.returned (.bool t)/\Below W.heap.size W h)
 (M:∀ W,Below w.heap.size w W->Calls prog 50 #[.agg (encP r).toArray] W fun e h=>e=.returned (.bool u)/\Below W.heap.size W h)
 (L:∀ W,Below w.heap.size w W->Calls prog 51 #[.agg (encP r).toArray] W fun e h=>e=.returned (.bool v)/\Below W.heap.size W h)
 (N:∀ W,Below w.heap.size w W->Calls prog 52 #[.agg (encP r).toArray] W fun e h=>e=.returned (.bool y)/\Below W.heap.size W h) :
 Calls prog 15 #[.agg (encP r).toArray] w fun e h=>e=.returned (.int .i64 (if (t && u && v && y)=true then 0 else 2))/\Below w.heap.size w h:=by
 have A:=hI K;have C:=hI M;have B:=hI L;have D:=hI N;obtain ⟨x,G⟩:∃ x:Int,x=(if (t && u && v && y)=true then 0 else 2):=⟨_,rfl⟩
 rw [<-G];have m:=hI G;clear K M L N G;obtain ⟨a,f⟩:∃ a,a=(encP r).toArray:=⟨_,rfl⟩
 have s:a.size=18:=by rw [f];rfl
 have H:a.all (·.oneCell')=true:=by rw [f];exact qxv r
 have I:(prog.info? 35).map (·.size)=some a.size:=by rw [s];kernel_rfl
 have j:(prog.info? 95).map (·.size)=some a.size:=by rw [s];kernel_rfl
 have l:prog.built 95 [(0,.agg a)]=some a:=by rw [f];exact qvo r
 rw [<-f] at A C B D |-
 have O:=hI f;simp only [encP] at f;rw [f];go_in;rw [<-f];clear f;have n:=vaw w (.cells a 35);have o:=veh w (.cells a 35) (.cells a 95);have E:∀ zs:Array Value,zs.size=18->(storeCells ⟨w.heap.size + 1,0,none⟩ a.toList).run prog ((w.alloc (.cells a 35)).alloc (.cells zs 95))=.ok () ((w.alloc (.cells a 35)).alloc (.cells a 95)):=fun zs Q=>by
  have:=run_storeCells_new (P:=prog) (w.alloc (.cells a 35)) 95 zs a j (by rw [Q,s]) H
  simpa using this
 go_wp2_with (first
  | (with_reducible refine wpList_load_row rfl 35 _ rfl w.heap.size rfl 35 a (0,0) _ n underlying35 rfl I ?_)
  | (with_reducible refine wpList_load_row rfl 95 _ rfl (w.heap.size + 1) rfl 95 a (0,0) _ o underlying95 rfl j ?_)
  | (with_reducible refine qln rfl 95 _ rfl a rfl l ?_)
  | fail)
 have d:=vaw ((w.alloc (.cells a 35)).alloc (.cells a 95)) (.cells #[.func (.func 49) #[.agg a] #[],.func (.func 50) #[.agg a] #[],.func (.func 51) #[.agg a] #[],.func (.func 52) #[.agg a] #[]] 40);have F:Below w.heap.size w (((w.alloc (.cells a 35)).alloc (.cells a 95)).alloc (.cells #[.func (.func 49) #[.agg a] #[],.func (.func 50) #[.agg a] #[],.func (.func 51) #[.agg a] #[],.func (.func 52) #[.agg a] #[]] 40)):=qab (qab (bel1 w _) _) _;have q:(((w.alloc (.cells a 35)).alloc (.cells a 95)).alloc (.cells #[.func (.func 49) #[.agg a] #[],.func (.func 50) #[.agg a] #[],.func (.func 51) #[.agg a] #[],.func (.func 52) #[.agg a] #[]] 40)).heap.size=w.heap.size + 3:=by simp
 rw [show ((w.alloc (.cells a 35)).alloc (.cells a 95)).heap.size=w.heap.size + 2 by simp] at d;generalize ((w.alloc (.cells a 35)).alloc (.cells a 95)).alloc (.cells #[.func (.func 49) #[.agg a] #[],.func (.func 50) #[.agg a] #[],.func (.func 51) #[.agg a] #[],.func (.func 52) #[.agg a] #[]] 40)=i at d F q |-
 have V:i.cell? ⟨w.heap.size + 2,0,none⟩=some (.func (.func 49) #[.agg a] #[]):=(vas i _ 0 _ _ (0,0) d).trans rfl;have J:i.cell? ⟨w.heap.size + 2,1,none⟩=some (.func (.func 50) #[.agg a] #[]):=(vas i _ 1 _ _ (0,0) d).trans rfl;have z:i.cell? ⟨w.heap.size + 2,2,none⟩=some (.func (.func 51) #[.agg a] #[]):=(vas i _ 2 _ _ (0,0) d).trans rfl;have k:i.cell? ⟨w.heap.size + 2,3,none⟩=some (.func (.func 52) #[.agg a] #[]):=(vas i _ 3 _ _ (0,0) d).trans rfl;have g:w.heap.size + 2 < i.heap.size:=by omega
 have c:=hI F;clear d F q n o I j l s H E;refine vdi 5 ?_;rw [vcy];cases t
 .go_wp2_with (go_at_call 49;refine (A.out _ c.out).mono ?_;rintro _ R ⟨rfl,b⟩;have c:=hI (qaa c.out b);clear b)
  go_ret;refine ⟨qag ?_,c.out⟩;rw [m.out];simp
 go_wp2_with (go_at_call 49;refine (A.out _ c.out).mono ?_;rintro _ R ⟨rfl,b⟩;have c:=hI (qaa c.out b);have J:=(b.cell (p:=⟨w.heap.size + 2,1,none⟩) g).trans J;have z:=(b.cell (p:=⟨w.heap.size + 2,2,none⟩) g).trans z;have k:=(b.cell (p:=⟨w.heap.size + 2,3,none⟩) g).trans k;have g:=vad g b.size;clear b);rw [vcy];cases u
 .go_wp2_with (go_at_call 50;refine (C.out _ c.out).mono ?_;rintro _ S ⟨rfl,b⟩;have c:=hI (qaa c.out b);clear b)
  go_ret;refine ⟨qag ?_,c.out⟩;rw [m.out];simp
 go_wp2_with (go_at_call 50;refine (C.out _ c.out).mono ?_;rintro _ S ⟨rfl,b⟩;have c:=hI (qaa c.out b);have z:=(b.cell (p:=⟨w.heap.size + 2,2,none⟩) g).trans z;have k:=(b.cell (p:=⟨w.heap.size + 2,3,none⟩) g).trans k;have g:=vad g b.size;clear b);rw [vcy];cases v
 .go_wp2_with (go_at_call 51;refine (B.out _ c.out).mono ?_;rintro _ T ⟨rfl,b⟩;have c:=hI (qaa c.out b);clear b)
  go_ret;refine ⟨qag ?_,c.out⟩;rw [m.out];simp
 go_wp2_with (go_at_call 51;refine (B.out _ c.out).mono ?_;rintro _ T ⟨rfl,b⟩;have c:=hI (qaa c.out b);have k:=(b.cell (p:=⟨w.heap.size + 2,3,none⟩) g).trans k;have g:=vad g b.size;clear b);rw [vcy];cases y
 .go_wp2_with (go_at_call 52;refine (D.out _ c.out).mono ?_;rintro _ U ⟨rfl,b⟩;have c:=hI (qaa c.out b);clear b)
  go_ret;refine ⟨qag ?_,c.out⟩;rw [m.out];simp
 go_wp2_with (go_at_call 52;refine (D.out _ c.out).mono ?_;rintro _ U ⟨rfl,b⟩;have c:=hI (qaa c.out b);have g:=vad g b.size;clear b);rw [vcy];go_wp2;go_ret;refine ⟨qag ?_,c.out⟩;rw [m.out];simp
