/- Texts that the law leans on. -/
import Derived.LaidEql
import Derived.Stop.Asserts
import Derived.RowKitTokens
import Derived.Deep.LoopGhost
import Derived.Test.YtjkecckndfcbjaaGreatDoorPBase
namespace Go.Proofs.YtjkecckndfcbjaaGreatDoor
open Go.RowKit Go.Extern.Stop Go.Stop Go.Extern
def Flt (w:World) (b:Nat):Prop:=∃ cs f,w.heap[b]?=some (.cells cs 134 f)
def Chain (w:World):List ByteArray→Int→Value→Prop
 | [],c,v=>v=.iface 51 (.int .i64 c)
 | op :: ops,c,v=>∃ b o u,v=.iface 132 (.pointer (some ⟨b,o,none⟩))∧w.cell? ⟨b,o,none⟩=some (.string op)∧w.cell? ⟨b,o + 1,none⟩=some u∧Chain w ops c u∧Flt w b
theorem qan {w:World} {a:Addr} {v:Value} (h:w.cell? a=some v):a.block < w.heap.size:=by
 rcases Nat.lt_or_ge a.block w.heap.size with h1 | h1
 ·exact h1
 ·simp [World.cell?,Array.getElem?_eq_none h1] at h
theorem Flt.lt {w:World} {b:Nat} (h:Flt w b):b < w.heap.size:=by
 obtain ⟨cs,f,h⟩:=h
 exact (Array.getElem?_eq_some_iff.1 h).1
theorem Flt.below {w w':World} {b:Nat} (hb:Below w.heap.size w w') (h:Flt w b):Flt w' b:=by
 have hl:=h.lt
 obtain ⟨cs,f,h⟩:=h
 exact ⟨cs,f,(hb.block b hl).trans h⟩
theorem Chain.below {w w':World} (hb:Below w.heap.size w w'):∀ {ops:List ByteArray} {c:Int} {v:Value},Chain w ops c v→Chain w' ops c v
 | [],_,_,h=>h
 | _ :: _,_,_,⟨b,o,u,h1,h2,h3,h4,h5⟩=>⟨b,o,u,h1,(hb.cell (p:=⟨b,o,none⟩) (qan h2)).trans h2,(hb.cell (p:=⟨b,o + 1,none⟩) (qan h3)).trans h3,Chain.below hb h4,h5.below hb⟩
def ErrV (w:World) (ops:List ByteArray) (c:Int) (v:Value):Prop:=(c=0∧ops=[]∧v=.nilIface)∨(c≠0∧Chain w ops c v)
theorem ErrV.below {w w':World} (hb:Below w.heap.size w w') {ops:List ByteArray} {c:Int} {v:Value} (h:ErrV w ops c v):ErrV w' ops c v:=by
 rcases h with h | ⟨h1,h2⟩
 ·exact Or.inl h
 ·exact Or.inr ⟨h1,h2.below hb⟩
theorem qhl (z:Sem Value) (f:TypeId→Addr→Nat→Nat→Sem Value) (v:Value) :
 ReflectliteValue.method z f #[v]=(do match←ReflectliteValue.parts v with | none=>z | some (t,a,fl)=>f t a fl (fl % 32)):=rfl
theorem rl_set (v x:Value):ReflectliteValue.set #[v,x]=(do
 let (some (dst,a,fl),some (src,b,_)):=(← ReflectliteValue.parts v,←ReflectliteValue.parts x)
  | unsupported (.noEntry "extern/(internal/reflectlite.Value).Set.zeroValue")
 if fl / ReflectliteValue.flagAddr % 2 == 0 then unsupported (.noEntry "extern/(internal/reflectlite.Value).Set.unaddressable")
 let val←loadVar src b
 if←Rtype.directlyAssignable dst src then storeVar dst a val
 else if←Rtype.implements dst src then
  if (← Rtype.kind src) == 20 then
   match val with
   | .nilIface => unsupported (.noEntry "extern/reflectlite: a nil value of one interface type handed on as a value of another")
   | _=>storeVar dst a val
  else storeVar dst a (.iface src val)
 else panicString ("reflectlite.Set: value of type " ++ (← Rtype.spelt src) ++ " is not assignable to type " ++ (← Rtype.spelt dst))
 pure (.tuple #[])):=rfl
theorem qmf (h : Value) (w : World) : (Go.method 416 189 (.agg #[h]) "Kind").run Tryz.prog w = .ok (208, h) w := by kernel_rfl
theorem qmg (h : Value) (w : World) : (Go.method 416 189 (.agg #[h]) "Elem").run Tryz.prog w = .ok (220, .agg #[h]) w := by kernel_rfl
theorem qga (h : Value) (w : World) : (Go.method 416 189 (.agg #[h]) "Implements").run Tryz.prog w = .ok (221, .agg #[h]) w := by kernel_rfl
theorem qew (h : Value) (w : World) : (Go.method 416 189 (.agg #[h]) "AssignableTo").run Tryz.prog w = .ok (218, .agg #[h]) w := by kernel_rfl
theorem qjj (h : Value) (w : World) : (Go.method 416 189 (.agg #[h]) "Comparable").run Tryz.prog w = .ok (219, .agg #[h]) w := by kernel_rfl
theorem qjd (v : Value) (w : World) : (Go.method 416 132 v "Unwrap").run Tryz.prog w = .ok (213, v) w := by kernel_rfl
theorem noAsF (v:Value) (xT:TypeId) (w:World):(Instr.typeAssert (.iface 132 v) xT 194 true).run Tryz.prog w=.ok (.tuple #[.nilIface,.bool false]) w:=run_typeAssert_lacksB Tryz.underlying194 (by kernel_rfl) (by kernel_rfl) v xT w
theorem noUnwrapE (v:Value) (xT:TypeId) (w:World):(Instr.typeAssert (.iface 51 v) xT 197 true).run Tryz.prog w=.ok (.tuple #[.nilIface,.bool false]) w:=run_typeAssert_lacksB Tryz.underlying197 (by kernel_rfl) (by kernel_rfl) v xT w
theorem qmh (v:Value) (xT:TypeId) (w:World):(Instr.typeAssert (.iface 132 v) xT 197 true).run Tryz.prog w=.ok (.tuple #[.iface 132 v,.bool true]) w:=run_typeAssert_hasB Tryz.underlying197 (by kernel_rfl) v xT w
theorem qwu (v:Value) (xT:TypeId) (w:World):(Instr.typeAssert (.iface 51 v) xT 198 true).run Tryz.prog w=.ok (.tuple #[.nilIface,.bool false]) w:=run_typeAssert_lacksB Tryz.underlying198 (by kernel_rfl) (by kernel_rfl) v xT w
theorem noIsE (v:Value) (xT:TypeId) (w:World):(Instr.typeAssert (.iface 51 v) xT 239 true).run Tryz.prog w=.ok (.tuple #[.nilIface,.bool false]) w:=run_typeAssert_lacksB Tryz.underlying239 (by kernel_rfl) (by kernel_rfl) v xT w
theorem noIsF (v:Value) (xT:TypeId) (w:World):(Instr.typeAssert (.iface 132 v) xT 239 true).run Tryz.prog w=.ok (.tuple #[.nilIface,.bool false]) w:=run_typeAssert_lacksB Tryz.underlying239 (by kernel_rfl) (by kernel_rfl) v xT w
theorem typeOfE (v:Value) (w:World):(ReflectliteType.typeOf #[.iface 51 v]).run Tryz.prog w=.ok (.iface 189 (.agg #[.pointer (some ⟨1,51,none⟩)])) w:=by kernel_rfl
theorem typeOfF (v:Value) (w:World):(ReflectliteType.typeOf #[.iface 132 v]).run Tryz.prog w=.ok (.iface 189 (.agg #[.pointer (some ⟨1,132,none⟩)])) w:=by kernel_rfl
theorem assignEE (w : World) : (ReflectliteType.relation "AssignableTo" ReflectliteType.assignableTo #[.agg #[.pointer (some ⟨1, 51, none⟩)], .iface 189 (.agg #[.pointer (some ⟨1, 51, none⟩)])]).run Tryz.prog w = .ok (.bool true) w := by kernel_rfl
theorem assignFE (w : World) : (ReflectliteType.relation "AssignableTo" ReflectliteType.assignableTo #[.agg #[.pointer (some ⟨1, 132, none⟩)], .iface 189 (.agg #[.pointer (some ⟨1, 51, none⟩)])]).run Tryz.prog w = .ok (.bool false) w := by kernel_rfl
theorem assignFF (w : World) : (ReflectliteType.relation "AssignableTo" ReflectliteType.assignableTo #[.agg #[.pointer (some ⟨1, 132, none⟩)], .iface 189 (.agg #[.pointer (some ⟨1, 132, none⟩)])]).run Tryz.prog w = .ok (.bool true) w := by kernel_rfl
theorem kindPE (w:World):((ReflectliteType.abiMethod fun t=>(fun a:Nat=>Value.int IntKind.u8 (a:Int)) <$> Rtype.kind t) #[.pointer (some ⟨1,106,none⟩)]).run Tryz.prog w=.ok (.int .u8 22) w:=by kernel_rfl
theorem kindPPF (w:World):((ReflectliteType.abiMethod fun t=>(fun a:Nat=>Value.int IntKind.u8 (a:Int)) <$> Rtype.kind t) #[.pointer (some ⟨1,242,none⟩)]).run Tryz.prog w=.ok (.int .u8 22) w:=by kernel_rfl
theorem kindE (w:World):((ReflectliteType.abiMethod fun t=>(fun a:Nat=>Value.int IntKind.u8 (a:Int)) <$> Rtype.kind t) #[.pointer (some ⟨1,51,none⟩)]).run Tryz.prog w=.ok (.int .u8 2) w:=by kernel_rfl
theorem kindPF (w:World):((ReflectliteType.abiMethod fun t=>(fun a:Nat=>Value.int IntKind.u8 (a:Int)) <$> Rtype.kind t) #[.pointer (some ⟨1,132,none⟩)]).run Tryz.prog w=.ok (.int .u8 22) w:=by kernel_rfl
theorem elemPE (w:World):(ReflectliteType.method ReflectliteType.elem #[.agg #[.pointer (some ⟨1,106,none⟩)]]).run Tryz.prog w=.ok (.iface 189 (.agg #[.pointer (some ⟨1,51,none⟩)])) w:=by kernel_rfl
theorem elemPPF (w:World):(ReflectliteType.method ReflectliteType.elem #[.agg #[.pointer (some ⟨1,242,none⟩)]]).run Tryz.prog w=.ok (.iface 189 (.agg #[.pointer (some ⟨1,132,none⟩)])) w:=by kernel_rfl
theorem implE (w : World) : (ReflectliteType.relation "Implements" ReflectliteType.implements_ #[.agg #[.pointer (some ⟨1, 51, none⟩)], .iface 189 (.agg #[.pointer (some ⟨1, 27, none⟩)])]).run Tryz.prog w = .ok (.bool true) w := by kernel_rfl
theorem implF (w : World) : (ReflectliteType.relation "Implements" ReflectliteType.implements_ #[.agg #[.pointer (some ⟨1, 132, none⟩)], .iface 189 (.agg #[.pointer (some ⟨1, 27, none⟩)])]).run Tryz.prog w = .ok (.bool true) w := by kernel_rfl
theorem valueOfPE (t:Addr) (w:World):(ReflectliteValue.unpack (.iface 106 (.pointer (some t)))).run Tryz.prog w
 = .ok (.agg #[.pointer (some ⟨1,106,none⟩),.pointer (some ⟨w.heap.size,0,none⟩),.int .u64 150]) (w.alloc (.cells #[.pointer (some t)] 106)):=by kernel_rfl
theorem qwv (t:Addr) (w:World):(ReflectliteValue.unpack (.iface 242 (.pointer (some t)))).run Tryz.prog w
 = .ok (.agg #[.pointer (some ⟨1,242,none⟩),.pointer (some ⟨w.heap.size,0,none⟩),.int .u64 150]) (w.alloc (.cells #[.pointer (some t)] 242)):=by kernel_rfl
theorem valueOfE (c:Int) (w:World):(ReflectliteValue.unpack (.iface 51 (.int .i64 c))).run Tryz.prog w
 = .ok (.agg #[.pointer (some ⟨1,51,none⟩),.pointer (some ⟨w.heap.size,0,none⟩),.int .u64 130]) (w.alloc (.cells #[.int .i64 c] 51)):=by kernel_rfl
theorem valueOfF (e:Addr) (w:World):(ReflectliteValue.unpack (.iface 132 (.pointer (some e)))).run Tryz.prog w
 = .ok (.agg #[.pointer (some ⟨1,132,none⟩),.pointer (some ⟨w.heap.size,0,none⟩),.int .u64 150]) (w.alloc (.cells #[.pointer (some e)] 132)):=by kernel_rfl
theorem typePE (a : Addr) (w : World) : (ReflectliteValue.methodAny (ReflectliteValue.valueError "reflectlite.Value.Type" 0) (fun t _ _ _ => ReflectliteType.toType t) #[.agg #[.pointer (some ⟨1, 106, none⟩), .pointer (some a), .int .u64 150]]).run Tryz.prog w
 = .ok (.iface 189 (.agg #[.pointer (some ⟨1,106,none⟩)])) w:=by kernel_rfl
theorem typePPF (a : Addr) (w : World) : (ReflectliteValue.methodAny (ReflectliteValue.valueError "reflectlite.Value.Type" 0) (fun t _ _ _ => ReflectliteType.toType t) #[.agg #[.pointer (some ⟨1, 242, none⟩), .pointer (some a), .int .u64 150]]).run Tryz.prog w
 = .ok (.iface 189 (.agg #[.pointer (some ⟨1,242,none⟩)])) w:=by kernel_rfl
theorem partsPE (a:Addr) (w:World):(ReflectliteValue.parts (.agg #[.pointer (some ⟨1,106,none⟩),.pointer (some a),.int .u64 150])).run Tryz.prog w=.ok (some (106,a,150)) w:=by kernel_rfl
theorem quc (a:Addr) (w:World):(ReflectliteValue.parts (.agg #[.pointer (some ⟨1,242,none⟩),.pointer (some a),.int .u64 150])).run Tryz.prog w=.ok (some (242,a,150)) w:=by kernel_rfl
theorem isNilPE (a p:Addr) (W:World) (ha:W.cell? a=some (.pointer (some p))) :
 (ReflectliteValue.method (ReflectliteValue.valueError "reflectlite.Value.IsNil" 0) ReflectliteValue.isNil #[.agg #[.pointer (some ⟨1, 106, none⟩), .pointer (some a), .int .u64 150]]).run Tryz.prog W = .ok (.bool false) W := by
 rw [qhl]
 simp only [Sem.run_bind,partsPE,Result.andThen]
 simp [ReflectliteValue.isNil,loadVar,isAgg,underlying,Tryz.underlying106,ha,Result.andThen]
theorem isNilPPF (a p:Addr) (W:World) (ha:W.cell? a=some (.pointer (some p))) :
 (ReflectliteValue.method (ReflectliteValue.valueError "reflectlite.Value.IsNil" 0) ReflectliteValue.isNil #[.agg #[.pointer (some ⟨1, 242, none⟩), .pointer (some a), .int .u64 150]]).run Tryz.prog W = .ok (.bool false) W := by
 rw [qhl]
 simp only [Sem.run_bind,quc,Result.andThen]
 simp [ReflectliteValue.isNil,loadVar,isAgg,underlying,Tryz.underlying242,ha,Result.andThen]
theorem elemOfPE (w:World):(Rtype.elem? 106).run Tryz.prog w=.ok (some 51) w:=by kernel_rfl
theorem elemOfPPF (w:World):(Rtype.elem? 242).run Tryz.prog w=.ok (some 132) w:=by kernel_rfl
theorem mkE (p:Addr) (w:World):(ReflectliteValue.mk 51 p ReflectliteValue.flagAddr).run Tryz.prog w=.ok (.agg #[.pointer (some ⟨1,51,none⟩),.pointer (some p),.int .u64 386]) w:=by kernel_rfl
theorem mkF (p:Addr) (w:World):(ReflectliteValue.mk 132 p ReflectliteValue.flagAddr).run Tryz.prog w=.ok (.agg #[.pointer (some ⟨1,132,none⟩),.pointer (some p),.int .u64 406]) w:=by kernel_rfl
theorem elemVPE (a p:Addr) (W:World) (ha:W.cell? a=some (.pointer (some p))) :
 (ReflectliteValue.method (ReflectliteValue.valueError "reflectlite.Value.Elem" 0) ReflectliteValue.elem #[.agg #[.pointer (some ⟨1, 106, none⟩), .pointer (some a), .int .u64 150]]).run Tryz.prog W
   = .ok (.agg #[.pointer (some ⟨1,51,none⟩),.pointer (some p),.int .u64 386]) W:=by
 rw [qhl]
 simp only [Sem.run_bind,partsPE,Result.andThen]
 simp [ReflectliteValue.elem,loadVar,isAgg,underlying,Tryz.underlying106,ha,Result.andThen,elemOfPE,mkE]
theorem elemVPPF (a p:Addr) (W:World) (ha:W.cell? a=some (.pointer (some p))) :
 (ReflectliteValue.method (ReflectliteValue.valueError "reflectlite.Value.Elem" 0) ReflectliteValue.elem #[.agg #[.pointer (some ⟨1, 242, none⟩), .pointer (some a), .int .u64 150]]).run Tryz.prog W
   = .ok (.agg #[.pointer (some ⟨1,132,none⟩),.pointer (some p),.int .u64 406]) W:=by
 rw [qhl]
 simp only [Sem.run_bind,quc,Result.andThen]
 simp [ReflectliteValue.elem,loadVar,isAgg,underlying,Tryz.underlying242,ha,Result.andThen,elemOfPPF,mkF]
theorem partsEa (a:Addr) (w:World):(ReflectliteValue.parts (.agg #[.pointer (some ⟨1,51,none⟩),.pointer (some a),.int .u64 386])).run Tryz.prog w=.ok (some (51,a,386)) w:=by kernel_rfl
theorem partsE (a:Addr) (w:World):(ReflectliteValue.parts (.agg #[.pointer (some ⟨1,51,none⟩),.pointer (some a),.int .u64 130])).run Tryz.prog w=.ok (some (51,a,130)) w:=by kernel_rfl
theorem partsFa (a:Addr) (w:World):(ReflectliteValue.parts (.agg #[.pointer (some ⟨1,132,none⟩),.pointer (some a),.int .u64 406])).run Tryz.prog w=.ok (some (132,a,406)) w:=by kernel_rfl
theorem partsF (a:Addr) (w:World):(ReflectliteValue.parts (.agg #[.pointer (some ⟨1,132,none⟩),.pointer (some a),.int .u64 150])).run Tryz.prog w=.ok (some (132,a,150)) w:=by kernel_rfl
theorem directE (w:World):(Rtype.directlyAssignable 51 51).run Tryz.prog w=.ok true w:=by kernel_rfl
theorem directF (w:World):(Rtype.directlyAssignable 132 132).run Tryz.prog w=.ok true w:=by kernel_rfl
theorem setE (ta b:Addr) (c:Int) (old:Value) (W:World) (hb:W.cell? b=some (.int .i64 c)) (ht:W.cell? ta=some old) (hf:W.frozen? ta=false) :
 (ReflectliteValue.set #[.agg #[.pointer (some ⟨1,51,none⟩),.pointer (some ta),.int .u64 386],.agg #[.pointer (some ⟨1,51,none⟩),.pointer (some b),.int .u64 130]]).run Tryz.prog W
   = .ok (.tuple #[]) (W.setCell ta (.int .i64 c)):=by
 rw [rl_set]
 simp only [Sem.run_bind,partsEa,partsE,Result.andThen]
 simp [ReflectliteValue.flagAddr,loadVar,isAgg,underlying,Tryz.underlying51,hb,Result.andThen,directE,storeVar,Value.cells,storeCells,Addr.add]
 rw [run_store Tryz.prog W ta _ _ (by rfl)]
 simp [ht,hf]
theorem setF (ta b e:Addr) (old:Value) (W:World) (hb:W.cell? b=some (.pointer (some e))) (ht:W.cell? ta=some old) (hf:W.frozen? ta=false) :
 (ReflectliteValue.set #[.agg #[.pointer (some ⟨1,132,none⟩),.pointer (some ta),.int .u64 406],.agg #[.pointer (some ⟨1,132,none⟩),.pointer (some b),.int .u64 150]]).run Tryz.prog W
   = .ok (.tuple #[]) (W.setCell ta (.pointer (some e))):=by
 rw [rl_set]
 simp only [Sem.run_bind,partsFa,partsF,Result.andThen]
 simp [ReflectliteValue.flagAddr,loadVar,isAgg,underlying,Tryz.underlying132,hb,Result.andThen,directF,storeVar,Value.cells,storeCells,Addr.add]
 rw [run_store Tryz.prog W ta _ _ (by rfl)]
 simp [ht,hf]
theorem qmi (b o:Nat) (u:Value) (w:World) (h:w.cell? ⟨b,o + 1,none⟩=some u) :
 Calls Tryz.prog 213 #[.pointer (some ⟨b,o,none⟩)] w fun e w'=>e=.returned u∧w=w':=by
 go_enter Tryz.func213,Tryz.ntmps213
 go_wp2
 go_ret
 exact ⟨rfl,rfl⟩
end Go.Proofs.YtjkecckndfcbjaaGreatDoor
namespace Go.Proofs.YtjkecckndfcbjaaGreatDoor
open Go.RowKit Go.Extern.Stop Go.Stop Go.Extern
def Glob (w:World):Prop:=w.cell? ⟨0,0,none⟩=some (.iface 189 (.agg #[.pointer (some ⟨1,27,none⟩)]))
theorem Glob.below {w w':World} (h:Glob w) (hb:Below w.heap.size w w'):Glob w':=(hb.cell (p:=⟨0,0,none⟩) (qan h)).trans h
theorem qis (args:Array Value) (w:World):(callFunc 114 args).run Tryz.prog w=(((ReflectliteType.typeOf) args).run Tryz.prog w).andThen fun v w'=>.ok (.value v) w' :=
 @run_callFunc_extern Tryz.prog 114 _ (ReflectliteType.typeOf) Tryz.func114 (by kernel_rfl) (by kernel_rfl) (by kernel_rfl) (by kernel_rfl) args w
theorem qfu (args:Array Value) (w:World):(callFunc 77 args).run Tryz.prog w=((((fun args=>ReflectliteValue.unpack (args.getD 0 (.tuple #[])))) args).run Tryz.prog w).andThen fun v w'=>.ok (.value v) w' :=
 @run_callFunc_extern Tryz.prog 77 _ ((fun args=>ReflectliteValue.unpack (args.getD 0 (.tuple #[])))) Tryz.func77 (by kernel_rfl) (by kernel_rfl) (by kernel_rfl) (by kernel_rfl) args w
theorem qud (args : Array Value) (w : World) : (callFunc 78 args).run Tryz.prog w = ((((ReflectliteValue.methodAny (ReflectliteValue.valueError "reflectlite.Value.Type" 0) (fun t _ _ _ => ReflectliteType.toType t))) args).run Tryz.prog w).andThen fun v w' => .ok (.value v) w' :=
 @run_callFunc_extern Tryz.prog 78 _ ((ReflectliteValue.methodAny (ReflectliteValue.valueError "reflectlite.Value.Type" 0) (fun t _ _ _ => ReflectliteType.toType t))) Tryz.func78 (by kernel_rfl) (by kernel_rfl) (by kernel_rfl) (by kernel_rfl) args w
theorem qpz (args : Array Value) (w : World) : (callFunc 79 args).run Tryz.prog w = ((((ReflectliteValue.method (ReflectliteValue.valueError "reflectlite.Value.IsNil" 0) ReflectliteValue.isNil)) args).run Tryz.prog w).andThen fun v w' => .ok (.value v) w' :=
 @run_callFunc_extern Tryz.prog 79 _ ((ReflectliteValue.method (ReflectliteValue.valueError "reflectlite.Value.IsNil" 0) ReflectliteValue.isNil)) Tryz.func79 (by kernel_rfl) (by kernel_rfl) (by kernel_rfl) (by kernel_rfl) args w
theorem que (args:Array Value) (w:World):(callFunc 208 args).run Tryz.prog w=((((ReflectliteType.abiMethod fun t=>do pure (.int .u8 (← Rtype.kind t)))) args).run Tryz.prog w).andThen fun v w'=>.ok (.value v) w' :=
 @run_callFunc_extern Tryz.prog 208 _ ((ReflectliteType.abiMethod fun t=>do pure (.int .u8 (← Rtype.kind t)))) Tryz.func208 (by kernel_rfl) (by kernel_rfl) (by kernel_rfl) (by kernel_rfl) args w
theorem quf (args:Array Value) (w:World):(callFunc 220 args).run Tryz.prog w=((((ReflectliteType.method ReflectliteType.elem)) args).run Tryz.prog w).andThen fun v w'=>.ok (.value v) w' :=
 @run_callFunc_extern Tryz.prog 220 _ ((ReflectliteType.method ReflectliteType.elem)) Tryz.func220 (by kernel_rfl) (by kernel_rfl) (by kernel_rfl) (by kernel_rfl) args w
theorem qgu (args : Array Value) (w : World) : (callFunc 221 args).run Tryz.prog w = ((((ReflectliteType.relation "Implements" ReflectliteType.implements_)) args).run Tryz.prog w).andThen fun v w' => .ok (.value v) w' :=
 @run_callFunc_extern Tryz.prog 221 _ ((ReflectliteType.relation "Implements" ReflectliteType.implements_)) Tryz.func221 (by kernel_rfl) (by kernel_rfl) (by kernel_rfl) (by kernel_rfl) args w
theorem qgv (args : Array Value) (w : World) : (callFunc 218 args).run Tryz.prog w = ((((ReflectliteType.relation "AssignableTo" ReflectliteType.assignableTo)) args).run Tryz.prog w).andThen fun v w' => .ok (.value v) w' :=
 @run_callFunc_extern Tryz.prog 218 _ ((ReflectliteType.relation "AssignableTo" ReflectliteType.assignableTo)) Tryz.func218 (by kernel_rfl) (by kernel_rfl) (by kernel_rfl) (by kernel_rfl) args w
theorem qqa (args : Array Value) (w : World) : (callFunc 115 args).run Tryz.prog w = ((((ReflectliteValue.method (ReflectliteValue.valueError "reflectlite.Value.Elem" 0) ReflectliteValue.elem)) args).run Tryz.prog w).andThen fun v w' => .ok (.value v) w' :=
 @run_callFunc_extern Tryz.prog 115 _ ((ReflectliteValue.method (ReflectliteValue.valueError "reflectlite.Value.Elem" 0) ReflectliteValue.elem)) Tryz.func115 (by kernel_rfl) (by kernel_rfl) (by kernel_rfl) (by kernel_rfl) args w
theorem ext_set (args:Array Value) (w:World):(callFunc 116 args).run Tryz.prog w=(((ReflectliteValue.set) args).run Tryz.prog w).andThen fun v w'=>.ok (.value v) w' :=
 @run_callFunc_extern Tryz.prog 116 _ (ReflectliteValue.set) Tryz.func116 (by kernel_rfl) (by kernel_rfl) (by kernel_rfl) (by kernel_rfl) args w
theorem asE_any (ops:List ByteArray) (c:Int) (v:Value) (t a:Addr) (old:Value) (w:World) (h:Chain w ops c v) (ha:w.cell? a=some (.pointer (some t))) (ht:w.cell? t=some old) (hf:w.frozen? t=false) :
 Calls Tryz.prog 80 #[v,.iface 106 (.pointer (some t)),.agg #[.pointer (some ⟨1,106,none⟩),.pointer (some a),.int .u64 150],.iface 189 (.agg #[.pointer (some ⟨1,51,none⟩)])] w fun ev w' =>
  ev=.returned (.bool true)∧w'=((w.alloc (.cells #[.pointer (some ⟨1,106,none⟩),.pointer (some a),.int .u64 150] 149)).alloc (.cells #[.int .i64 c] 51)).setCell t (.int .i64 c):=by
 have htl:=qan ht
 have hal:=qan ha
 have h1:=qis
 have h2:=qgv
 have h3:=qfu
 have h4:=qqa
 have h5:=ext_set
 have f1:=typeOfE
 have f2:=typeOfF
 have f3:=assignEE
 have f4:=assignFE
 have f5:=valueOfE
 have f6:=qew
 have f7:=noAsF
 have f8:=qmh
 have f9:=qjd
 have el:=elemVPE a t (w.alloc (.cells #[.pointer (some ⟨1,106,none⟩),.pointer (some a),.int .u64 150] 149)) (by rw [World.cell?_alloc_lt _ _ a hal];exact ha)
 have st:=setE t ⟨w.heap.size + 1,0,none⟩ c old ((w.alloc (.cells #[.pointer (some ⟨1,106,none⟩),.pointer (some a),.int .u64 150] 149)).alloc (.cells #[.int .i64 c] 51))
  (by rw [World.cell?_alloc_at _ _ _ _ (by simp)];rfl)
  (by rw [World.cell?_alloc_lt _ _ t (by simp;omega),World.cell?_alloc_lt _ _ t htl];exact ht)
  (by rw [World.frozen?_alloc_old _ _ t (by simp;omega),World.frozen?_alloc_old _ _ t (Nat.ne_of_lt htl)];exact hf)
 have HC:=hI h
 clear h ha ht hf htl hal
 go_enter Tryz.func80,Tryz.ntmps80
 go_wp2
 go_loopg [0] ops.length (fun k v wr=>wr=w.alloc (.cells #[.pointer (some ⟨1,106,none⟩),.pointer (some a),.int .u64 150] 149)∧∃ l:List ByteArray,l.length=k∧Chain w l c v)
 case atStart=>exact ⟨rfl,ops,rfl,HC.out⟩
 case round =>
  obtain ⟨rfl,l,hl,hch⟩:=hrel
  cases l with
  | nil =>
    obtain rfl:_=_:=hch
    clear hl
    go_wp2
    go_ret
    exact ⟨rfl,rfl⟩
  | cons op l =>
    obtain ⟨b,o,u,rfl,hc0,hc1,hu,_⟩:=hch
    have hblt:=qan hc1
    have HU:=hI (qmi b o u (w.alloc (.cells #[.pointer (some ⟨1,106,none⟩),.pointer (some a),.int .u64 150] 149)) (by rw [World.cell?_alloc_lt _ _ ⟨b,o + 1,none⟩ hblt];exact hc1))
    have HL:=hI hl
    have HV:=hI hu
    clear hc0 hc1 hblt hl
    cases l with
    | nil =>
      obtain rfl:u=_:=hu
      go_wp2_with (go_at_call 213;refine HU.out.mono ?_;rintro e w' ⟨rfl,rfl⟩)
      go_roundg 0
      case rel=>exact ⟨rfl,[],rfl,rfl⟩
      case measure=>have:=HL.out;simp at this;omega
    | cons op' l =>
      obtain ⟨b',o',u',rfl,_⟩:=hu
      go_wp2_with (go_at_call 213;refine HU.out.mono ?_;rintro e w' ⟨rfl,rfl⟩)
      go_roundg (l.length + 1)
      case rel=>exact ⟨rfl,op' :: l,rfl,HV.out⟩
      case measure=>have:=HL.out;simp at this;omega
theorem asF_any (p t a:Addr) (old:Value) (w:World) (ha:w.cell? a=some (.pointer (some t))) (ht:w.cell? t=some old) (hf:w.frozen? t=false) :
 Calls Tryz.prog 80 #[.iface 132 (.pointer (some p)),.iface 242 (.pointer (some t)),.agg #[.pointer (some ⟨1,242,none⟩),.pointer (some a),.int .u64 150],.iface 189 (.agg #[.pointer (some ⟨1,132,none⟩)])] w fun ev w' =>
  ev=.returned (.bool true)∧w'=((w.alloc (.cells #[.pointer (some ⟨1,242,none⟩),.pointer (some a),.int .u64 150] 149)).alloc (.cells #[.pointer (some p)] 132)).setCell t (.pointer (some p)):=by
 have htl:=qan ht
 have hal:=qan ha
 have h1:=qis
 have h2:=qgv
 have h3:=qfu
 have h4:=qqa
 have h5:=ext_set
 have f2:=typeOfF
 have f4:=assignFF
 have f5:=valueOfF
 have f6:=qew
 have el:=elemVPPF a t (w.alloc (.cells #[.pointer (some ⟨1,242,none⟩),.pointer (some a),.int .u64 150] 149)) (by rw [World.cell?_alloc_lt _ _ a hal];exact ha)
 have st:=setF t ⟨w.heap.size + 1,0,none⟩ p old ((w.alloc (.cells #[.pointer (some ⟨1,242,none⟩),.pointer (some a),.int .u64 150] 149)).alloc (.cells #[.pointer (some p)] 132))
  (by rw [World.cell?_alloc_at _ _ _ _ (by simp)];rfl)
  (by rw [World.cell?_alloc_lt _ _ t (by simp;omega),World.cell?_alloc_lt _ _ t htl];exact ht)
  (by rw [World.frozen?_alloc_old _ _ t (by simp;omega),World.frozen?_alloc_old _ _ t (Nat.ne_of_lt htl)];exact hf)
 clear ha ht hf htl hal
 go_enter Tryz.func80,Tryz.ntmps80
 go_wp2
 refine wp_loop_rounds 1 ?_
 rw [rounds_succ]
 go_wp2
 go_ret
 exact ⟨rfl,rfl⟩
theorem AsNil_any (t:Value) (w:World) :
 Calls Tryz.prog 43 #[.nilIface,t] w fun e w'=>e=.returned (.bool false)∧w=w':=by
 go_enter Tryz.func43,Tryz.ntmps43
 go_wp2
 go_ret
 exact ⟨rfl,rfl⟩
end Go.Proofs.YtjkecckndfcbjaaGreatDoor
namespace Go.Proofs.YtjkecckndfcbjaaGreatDoor
open Go.RowKit Go.Extern.Stop Go.Stop Go.Extern
structure Hit (w:World) (t:Addr) (u:Value) (w':World):Prop where
 cell:w'.cell? t=some u
 grown:w.grownBy w' (some t.block)
theorem qem {a w:World} {row:Option Nat} (h:a.grownBy w row) (o:Obj):a.grownBy (w.alloc o) row :=
 ⟨h.os,h.tape,h.output,Nat.le_trans h.size (by simp),fun i hi hne=>(Below.heap_alloc w o i (Nat.lt_of_lt_of_le hi h.size)).trans (h.block i hi hne)⟩
theorem qag {a w:World} {g:Nat} (h:a.grownBy w (some g)) {p:Addr} (hp:p.block=g) (u:Value):a.grownBy (w.setCell p u) (some g) :=
 ⟨h.os,h.tape,h.output,by simpa [World.setCell] using h.size,fun i hi hne=>(Below.heap_setCell w p u i (by rintro rfl;exact hne (by rw [hp]))).trans (h.block i hi hne)⟩
theorem hit_of {w:World} {t:Addr} {u old:Value} (ht:w.cell? t=some old) (o1 o2 o3 o4:Obj):Hit w t u (((((w.alloc o1).alloc o2).alloc o3).alloc o4).setCell t u):=by
 have htl:=qan ht
 have e1:((((w.alloc o1).alloc o2).alloc o3).alloc o4).cell? t=some old:=by
  rw [World.cell?_alloc_lt _ _ t (by simp;omega),World.cell?_alloc_lt _ _ t (by simp;omega),World.cell?_alloc_lt _ _ t (by simp;omega),World.cell?_alloc_lt _ _ t htl];exact ht
 exact ⟨World.cell?_setCell_same _ _ _ e1,qag (qem (qem (qem (qem (World.grownBy.refl w _) o1) o2) o3) o4) rfl u⟩
theorem qaq {w a b:World} (h:Below w.heap.size w a) {g:Nat} (hg:a.grownBy b (some g)) (hlt:w.heap.size≤g):Below w.heap.size w b :=
 ⟨hg.os.trans h.os,hg.tape.trans h.tape,hg.output.trans h.output,Nat.le_trans h.size hg.size,fun i hi=>(hg.block i (Nat.lt_of_lt_of_le hi h.size) (by intro e;injection e with e;omega)).trans (h.block i hi)⟩
set_option maxHeartbeats 1000000 in
theorem AsE_any (ops:List ByteArray) (c:Int) (v:Value) (t:Addr) (old:Value) (w:World) (hg:Glob w) (h:Chain w ops c v) (ht:w.cell? t=some old) (hf:w.frozen? t=false) :
 Calls Tryz.prog 43 #[v,.iface 106 (.pointer (some t))] w fun ev w'=>ev=.returned (.bool true)∧Hit w t (.int .i64 c) w':=by
 have htl:=qan ht
 have h1:=qfu
 have h2:=qud
 have h3:=qpz
 have h4:=que
 have h5:=quf
 have h6:=qgu
 have f1:=valueOfPE
 have f2:=typePE
 have f3:=qmf
 have f4:=qmg
 have f5:=qga
 have f6:=kindPE
 have f7:=kindE
 have f8:=elemPE
 have f9:=implE
 have n8:=isNilPE ⟨w.heap.size,0,none⟩ t ((w.alloc (.cells #[.pointer (some t)] 106)).alloc (.cells #[.pointer (some ⟨1,106,none⟩),.pointer (some ⟨w.heap.size,0,none⟩),.int .u64 150] 149)) (by simp)
 have hg1:((w.alloc (.cells #[.pointer (some t)] 106)).alloc (.cells #[.pointer (some ⟨1,106,none⟩),.pointer (some ⟨w.heap.size,0,none⟩),.int .u64 150] 149)).cell? ⟨0,0,none⟩=some (.iface 189 (.agg #[.pointer (some ⟨1,27,none⟩)])) :=
  hg.below (qab (bel1 w _) _)
 have HA:=hI (asE_any ops c v t ⟨w.heap.size,0,none⟩ old ((w.alloc (.cells #[.pointer (some t)] 106)).alloc (.cells #[.pointer (some ⟨1,106,none⟩),.pointer (some ⟨w.heap.size,0,none⟩),.int .u64 150] 149))
  (h.below (qab (bel1 w _) _)) (by simp)
  (by rw [World.cell?_alloc_lt _ _ t (by simp;omega),World.cell?_alloc_lt _ _ t htl];exact ht)
  (by rw [World.frozen?_alloc_old _ _ t (by simp;omega),World.frozen?_alloc_old _ _ t (Nat.ne_of_lt htl)];exact hf))
 have HT:=hI ht
 clear hg htl ht hf
 cases ops with
 | nil =>
   obtain rfl:_=_:=h
   go_enter Tryz.func43,Tryz.ntmps43
   go_wp2_with (go_at_call 80;refine HA.out.mono ?_;rintro e w' ⟨rfl,rfl⟩)
   go_ret
   exact ⟨rfl,hit_of HT.out _ _ _ _⟩
 | cons op ops =>
   obtain ⟨b,o,u,rfl,_⟩:=h
   go_enter Tryz.func43,Tryz.ntmps43
   go_wp2_with (go_at_call 80;refine HA.out.mono ?_;rintro e w' ⟨rfl,rfl⟩)
   go_ret
   exact ⟨rfl,hit_of HT.out _ _ _ _⟩
set_option maxHeartbeats 1000000 in
theorem AsF_any (p t:Addr) (old:Value) (w:World) (hg:Glob w) (ht:w.cell? t=some old) (hf:w.frozen? t=false) :
 Calls Tryz.prog 43 #[.iface 132 (.pointer (some p)),.iface 242 (.pointer (some t))] w fun ev w'=>ev=.returned (.bool true)∧Hit w t (.pointer (some p)) w':=by
 have htl:=qan ht
 have h1:=qfu
 have h2:=qud
 have h3:=qpz
 have h4:=que
 have h5:=quf
 have h6:=qgu
 have f1:=qwv
 have f2:=typePPF
 have f3:=qmf
 have f4:=qmg
 have f5:=qga
 have f6:=kindPPF
 have f7:=kindPF
 have f8:=elemPPF
 have f9:=implF
 have n8:=isNilPPF ⟨w.heap.size,0,none⟩ t ((w.alloc (.cells #[.pointer (some t)] 242)).alloc (.cells #[.pointer (some ⟨1,242,none⟩),.pointer (some ⟨w.heap.size,0,none⟩),.int .u64 150] 149)) (by simp)
 have hg1:((w.alloc (.cells #[.pointer (some t)] 242)).alloc (.cells #[.pointer (some ⟨1,242,none⟩),.pointer (some ⟨w.heap.size,0,none⟩),.int .u64 150] 149)).cell? ⟨0,0,none⟩=some (.iface 189 (.agg #[.pointer (some ⟨1,27,none⟩)])) :=
  hg.below (qab (bel1 w _) _)
 have HA:=hI (asF_any p t ⟨w.heap.size,0,none⟩ old ((w.alloc (.cells #[.pointer (some t)] 242)).alloc (.cells #[.pointer (some ⟨1,242,none⟩),.pointer (some ⟨w.heap.size,0,none⟩),.int .u64 150] 149))
  (by simp)
  (by rw [World.cell?_alloc_lt _ _ t (by simp;omega),World.cell?_alloc_lt _ _ t htl];exact ht)
  (by rw [World.frozen?_alloc_old _ _ t (by simp;omega),World.frozen?_alloc_old _ _ t (Nat.ne_of_lt htl)];exact hf))
 have HT:=hI ht
 clear hg htl ht hf
 go_enter Tryz.func43,Tryz.ntmps43
 go_wp2_with (go_at_call 80;refine HA.out.mono ?_;rintro e w' ⟨rfl,rfl⟩)
 go_ret
 exact ⟨rfl,hit_of HT.out _ _ _ _⟩
theorem qbt (ops:List ByteArray) (c:Int) (v:Value) (w:World) (hg:Glob w) (h:ErrV w ops c v) :
 Calls Tryz.prog 15 #[v] w fun e w'=>e=.returned (.int .i64 c)∧Below w.heap.size w w':=by
 rcases h with ⟨rfl,_,rfl⟩ | ⟨hc,h⟩
 ·clear hg
  go_enter Tryz.func15,Tryz.ntmps15
  go_wp2
  go_ret
  exact ⟨rfl,Below.refl _ _⟩
 ·have hc0:(c == 0)=false:=by simpa using hc
  have HA:=hI (AsE_any ops c v ⟨w.heap.size,0,none⟩ (.int .i64 0) (w.alloc (.cells #[.int .i64 0] 51)) (hg.below (bel1 w _)) (h.below (bel1 w _)) (by simp) (by simp))
  have hv:v≠.nilIface:=by
   cases ops with
   | nil=>rw [show v=_ from h];intro e;cases e
   | cons op ops=>obtain ⟨b,o,u,rfl,_⟩:=h;intro e;cases e
  clear hc hg
  have key:∀ V:Value,v=V→Calls Tryz.prog 43 #[V,.iface 106 (.pointer (some ⟨w.heap.size,0,none⟩))] (w.alloc (.cells #[.int .i64 0] 51)) fun ev w'=>ev=.returned (.bool true)∧Hit (w.alloc (.cells #[.int .i64 0] 51)) ⟨w.heap.size,0,none⟩ (.int .i64 c) w':=fun V e=>by rw [←e];exact HA.out
  have HK:=hI key
  clear HA key hv
  cases ops with
  | nil =>
    obtain rfl:_=_:=h
    go_enter Tryz.func15,Tryz.ntmps15
    go_wp2_with (go_at_call 43;refine (HK.out _ rfl).mono ?_;rintro e w' ⟨rfl,hh⟩;have hcell:=hh.cell;have HG:=hI hh.grown;clear hh)
    go_ret
    exact ⟨rfl,qaq (bel1 w _) HG.out (Nat.le_refl _)⟩
  | cons op ops =>
    obtain ⟨b,o,u,rfl,_⟩:=h
    go_enter Tryz.func15,Tryz.ntmps15
    go_wp2_with (go_at_call 43;refine (HK.out _ rfl).mono ?_;rintro e w' ⟨rfl,hh⟩;have hcell:=hh.cell;have HG:=hI hh.grown;clear hh)
    go_ret
    exact ⟨rfl,qaq (bel1 w _) HG.out (Nat.le_refl _)⟩
theorem qee (op:ByteArray) (c:Int) (w:World) (hc:c≠0) :
 Calls Tryz.prog 64 #[.string op,.int .i64 c] w fun e w'=>∃ v,e=.returned v∧Chain w' [op] c v∧Below w.heap.size w w':=by
 have hc0:(c == 0)=false:=by simpa using hc
 have k0:(w.alloc (.cells #[.string op,.iface 51 (.int .i64 c)] 134)).cell? ⟨w.heap.size,0,none⟩=some (.string op):=by simp
 have k1:(w.alloc (.cells #[.string op,.iface 51 (.int .i64 c)] 134)).cell? ⟨w.heap.size,0 + 1,none⟩=some (.iface 51 (.int .i64 c)):=by simp
 have KF:Hid (Flt (w.alloc (.cells #[.string op,.iface 51 (.int .i64 c)] 134)) w.heap.size):=⟨_,_,by show (w.heap.push _)[w.heap.size]?=_;simp;exact ⟨rfl,rfl⟩⟩
 have K0:=hI k0
 have K1:=hI k1
 clear hc k0 k1
 go_enter Tryz.func64,Tryz.ntmps64
 go_wp2
 go_ret
 exact ⟨_,rfl,⟨_,0,_,rfl,K0.out,K1.out,rfl,KF.out⟩,bel1 w _⟩
theorem qsf (op:ByteArray) (w:World) :
 Calls Tryz.prog 34 #[.string op,.nilIface] w fun e w'=>e=.returned .nilIface∧w=w':=by
 go_enter Tryz.func34,Tryz.ntmps34
 go_wp2
 go_ret
 exact ⟨rfl,rfl⟩
theorem qdo (op:ByteArray) (ops:List ByteArray) (c:Int) (v:Value) (w:World) (h:Chain w ops c v) :
 Calls Tryz.prog 34 #[.string op,v] w fun e w'=>∃ u,e=.returned u∧Chain w' (op :: ops) c u∧Below w.heap.size w w':=by
 have k0:(w.alloc (.cells #[.string op,v] 134)).cell? ⟨w.heap.size,0,none⟩=some (.string op):=by simp
 have k1:(w.alloc (.cells #[.string op,v] 134)).cell? ⟨w.heap.size,0 + 1,none⟩=some v:=by simp
 have K0:=hI k0
 have K1:=hI k1
 have HC:=hI (h.below (bel1 w (.cells #[.string op,v] 134)))
 have KF:Hid (Flt (w.alloc (.cells #[.string op,v] 134)) w.heap.size):=⟨_,_,by show (w.heap.push _)[w.heap.size]?=_;simp;exact ⟨rfl,rfl⟩⟩
 clear k0 k1
 cases ops with
 | nil =>
   obtain rfl:v=_:=h
   go_enter Tryz.func34,Tryz.ntmps34
   go_wp2
   go_ret
   exact ⟨_,rfl,⟨_,0,_,rfl,K0.out,K1.out,HC.out,KF.out⟩,bel1 w _⟩
 | cons op' ops =>
   obtain ⟨b,o,u,rfl,_⟩:=h
   go_enter Tryz.func34,Tryz.ntmps34
   go_wp2
   go_ret
   exact ⟨_,rfl,⟨_,0,_,rfl,K0.out,K1.out,HC.out,KF.out⟩,bel1 w _⟩
end Go.Proofs.YtjkecckndfcbjaaGreatDoor
