/- Texts that the law leans on. -/
import Derived.Stop.Asserts
import Derived.RowKitTokens
import Derived.Deep.LoopGhost
import Derived.Test.YtdcfffhoajmafaaGreatQBase
namespace Go.Proofs.YtdcfffhoajmafaaGreat
open Go.RowKit Go.Extern.Stop Go.Stop Go.Extern Go.Proofs.Tryz
def Flt (w:World) (b:Nat):Prop:=∃ cs f,w.heap[b]?=some (.cells cs 234 f)
def Chain (w:World):List ByteArray->Int->Value->Prop
 | [],c,v=>v=.iface 48 (.int .i64 c)
 | op :: ops,c,v=>∃ b o u,v=.iface 232 (.pointer (some ⟨b,o,none⟩))/\w.cell? ⟨b,o,none⟩=some (.string op)/\w.cell? ⟨b,o + 1,none⟩=some u/\Chain w ops c u/\Flt w b
theorem qgm {w:World} {a:Addr} {v:Value} (h:w.cell? a=some v):a.block < w.heap.size:=by
 rcases val a.block w.heap.size with b | b
 .exact b
 simp [World.cell?,Array.getElem?_eq_none b] at h
theorem Flt.lt {w:World} {b:Nat} (h:Flt w b):b < w.heap.size:=by
 obtain ⟨a,f,h⟩:=h;exact (vbm.1 h).1
theorem Flt.below {w w':World} {b:Nat} (c:Below w.heap.size w w') (h:Flt w b):Flt w' b:=by
 have d:=h.lt;obtain ⟨a,f,h⟩:=h;exact ⟨a,f,(c.block b d).trans h⟩
theorem Chain.below {w w':World} (a:Below w.heap.size w w'):∀ {ops:List ByteArray} {c:Int} {v:Value},Chain w ops c v->Chain w' ops c v
 | [],_,_,h=>h
 | _ :: _,_,_,⟨b,o,u,h1,h2,h3,h4,h5⟩=>⟨b,o,u,h1,(a.cell (p:=⟨b,o,none⟩) (qgm h2)).trans h2,(a.cell (p:=⟨b,o + 1,none⟩) (qgm h3)).trans h3,Chain.below a h4,h5.below a⟩
def ErrV (w:World) (ops:List ByteArray) (c:Int) (v:Value):Prop:=(c=0/\ops=[]/\v=.nilIface)\/(c≠0/\Chain w ops c v)
theorem ErrV.below {w w':World} (e:Below w.heap.size w w') {a:List ByteArray} {c:Int} {v:Value} (h:ErrV w a c v):ErrV w' a c v:=by
 rcases h with h | ⟨b,d⟩
 .exact Or.inl h
 exact Or.inr ⟨b,d.below e⟩
theorem rl_set (v x:Value):ReflectliteValue.set #[v,x]=(do
 let (some (dst,a,fl),some (src,b,_)):=(<- ReflectliteValue.parts v,<-ReflectliteValue.parts x)
  | unsupported (.noEntry "extern/(internal/reflectlite.Value).Set.zeroValue")
 if fl / ReflectliteValue.flagAddr % 2 == 0 then unsupported (.noEntry "extern/(internal/reflectlite.Value).Set.unaddressable")
 let val<-loadVar src b
 if<-Rtype.directlyAssignable dst src then storeVar dst a val
 else if<-Rtype.implements dst src then
  if (<- Rtype.kind src) == 20 then
   match val with
   | .nilIface => unsupported (.noEntry "extern/reflectlite: a nil value of one interface type handed on as a value of another")
   | _=>storeVar dst a val
  else storeVar dst a (.iface src val)
 else panicString ("reflectlite.Set: value of type " ++ (<- Rtype.spelt src) ++ " is not assignable to type " ++ (<- Rtype.spelt dst))
 pure (.tuple #[])):=rfl
theorem partsFa (a:Addr) (w:World):(ReflectliteValue.parts (.agg #[.pointer (some ⟨0,232,none⟩),.pointer (some a),.int .u64 406])).run prog w=.ok (some (232,a,406)) w:=by kernel_rfl
theorem partsF (a:Addr) (w:World):(ReflectliteValue.parts (.agg #[.pointer (some ⟨0,232,none⟩),.pointer (some a),.int .u64 150])).run prog w=.ok (some (232,a,150)) w:=by kernel_rfl
theorem directF (w:World):(Rtype.directlyAssignable 232 232).run prog w=.ok true w:=by kernel_rfl
theorem setF (a b e:Addr) (c:Value) (W:World) (d:W.cell? b=some (.pointer (some e))) (g:W.cell? a=some c) (f:W.frozen? a=false) :
 (ReflectliteValue.set #[.agg #[.pointer (some ⟨0,232,none⟩),.pointer (some a),.int .u64 406],.agg #[.pointer (some ⟨0,232,none⟩),.pointer (some b),.int .u64 150]]).run prog W
   = .ok (.tuple #[]) (W.setCell a (.pointer (some e))):=by
 rw [rl_set];simp only [Sem.run_bind,partsFa,partsF,Result.andThen];simp [ReflectliteValue.flagAddr,loadVar,isAgg,underlying,underlying232,d,Result.andThen,directF,storeVar,Value.cells,storeCells,Addr.add];rw [run_store prog W a _ _ jr];simp [g,f]
theorem qmc (op:ByteArray) (c:Int) (w:World) (a:c≠0) :
 Calls prog 139 #[.string op,.int .i64 c] w fun e f=>∃ v,e=.returned v/\Chain f [op] c v/\Below w.heap.size w f:=by
 have j:(c == 0)=false:=by simpa using a
 have b:(w.alloc (.cells #[.string op,.iface 48 (.int .i64 c)] 234)).cell? ⟨w.heap.size,0,none⟩=some (.string op):=by simp
 have d:(w.alloc (.cells #[.string op,.iface 48 (.int .i64 c)] 234)).cell? ⟨w.heap.size,0 + 1,none⟩=some (.iface 48 (.int .i64 c)):=by simp
 have i:Hid (Flt (w.alloc (.cells #[.string op,.iface 48 (.int .i64 c)] 234)) w.heap.size):=⟨_,_,by show (w.heap.push _)[w.heap.size]?=_;simp;exact ⟨rfl,rfl⟩⟩
 have g:=hI b;have h:=hI d;clear a b d;go_in;go_wp2;go_ret;exact ⟨_,rfl,⟨_,0,_,rfl,g.out,h.out,rfl,i.out⟩,bel1 w _⟩
