/- Texts that the law leans on. -/
import Derived.LaidEql
import Derived.Stop.Asserts
import Derived.RowKitTokens
import Derived.Deep.LoopGhost
import Derived.Test.YtnmojicfmcbgmaaGreatDoorQBase
namespace Go.Proofs.YtnmojicfmcbgmaaGreatDoor
open Go.RowKit Go.Extern.Stop Go.Stop Go.Extern
def Flt (w:World) (b:Nat):Prop:=∃ cs f,w.heap[b]?=some (.cells cs 126 f)
def Chain (w:World):List ByteArray→Int→Value→Prop
 | [],c,v=>v=.iface 48 (.int .i64 c)
 | op :: ops,c,v=>∃ b o u,v=.iface 124 (.pointer (some ⟨b,o,none⟩))∧w.cell? ⟨b,o,none⟩=some (.string op)∧w.cell? ⟨b,o + 1,none⟩=some u∧Chain w ops c u∧Flt w b
theorem qap {w:World} {a:Addr} {v:Value} (h:w.cell? a=some v):a.block < w.heap.size:=by
 rcases Nat.lt_or_ge a.block w.heap.size with h1 | h1
 ·exact h1
 ·simp [World.cell?,Array.getElem?_eq_none h1] at h
theorem Flt.lt {w:World} {b:Nat} (h:Flt w b):b < w.heap.size:=by
 obtain ⟨cs,f,h⟩:=h
 exact (Array.getElem?_eq_some_iff.1 h).1
theorem Flt.below {w w':World} {b:Nat} (hb:Below w.heap.size w w') (h:Flt w b):Flt w' b:=by
 have hl:=h.lt
 obtain ⟨cs,f,h⟩:=h
 exact ⟨cs,f,(hb.block b hl).trans h⟩
theorem Chain.below {w w':World} (hb:Below w.heap.size w w'):∀ {ops:List ByteArray} {c:Int} {v:Value},Chain w ops c v→Chain w' ops c v
 | [],_,_,h=>h
 | _ :: _,_,_,⟨b,o,u,h1,h2,h3,h4,h5⟩=>⟨b,o,u,h1,(hb.cell (p:=⟨b,o,none⟩) (qap h2)).trans h2,(hb.cell (p:=⟨b,o + 1,none⟩) (qap h3)).trans h3,Chain.below hb h4,h5.below hb⟩
def ErrV (w:World) (ops:List ByteArray) (c:Int) (v:Value):Prop:=(c=0∧ops=[]∧v=.nilIface)∨(c≠0∧Chain w ops c v)
theorem ErrV.below {w w':World} (hb:Below w.heap.size w w') {ops:List ByteArray} {c:Int} {v:Value} (h:ErrV w ops c v):ErrV w' ops c v:=by
 rcases h with h | ⟨h1,h2⟩
 ·exact Or.inl h
 ·exact Or.inr ⟨h1,h2.below hb⟩
theorem qio (z:Sem Value) (f:TypeId→Addr→Nat→Nat→Sem Value) (v:Value) :
 ReflectliteValue.method z f #[v]=(do match←ReflectliteValue.parts v with | none=>z | some (t,a,fl)=>f t a fl (fl % 32)):=rfl
theorem rl_set (v x:Value):ReflectliteValue.set #[v,x]=(do
 let (some (dst,a,fl),some (src,b,_)):=(← ReflectliteValue.parts v,←ReflectliteValue.parts x)
  | unsupported (.noEntry "extern/(internal/reflectlite.Value).Set.zeroValue")
 if fl / ReflectliteValue.flagAddr % 2 == 0 then unsupported (.noEntry "extern/(internal/reflectlite.Value).Set.unaddressable")
 let val←loadVar src b
 if←Rtype.directlyAssignable dst src then storeVar dst a val
 else if←Rtype.implements dst src then
  if (← Rtype.kind src) == 20 then
   match val with
   | .nilIface => unsupported (.noEntry "extern/reflectlite: a nil value of one interface type handed on as a value of another")
   | _=>storeVar dst a val
  else storeVar dst a (.iface src val)
 else panicString ("reflectlite.Set: value of type " ++ (← Rtype.spelt src) ++ " is not assignable to type " ++ (← Rtype.spelt dst))
 pure (.tuple #[])):=rfl
theorem qjq (h : Value) (w : World) : (Go.method 429 238 (.agg #[h]) "Kind").run Tryz.prog w = .ok (236, h) w := by kernel_rfl
theorem qjr (h : Value) (w : World) : (Go.method 429 238 (.agg #[h]) "Elem").run Tryz.prog w = .ok (250, .agg #[h]) w := by kernel_rfl
theorem qev (h : Value) (w : World) : (Go.method 429 238 (.agg #[h]) "Implements").run Tryz.prog w = .ok (251, .agg #[h]) w := by kernel_rfl
theorem qdw (h : Value) (w : World) : (Go.method 429 238 (.agg #[h]) "AssignableTo").run Tryz.prog w = .ok (248, .agg #[h]) w := by kernel_rfl
theorem qqd (v : Value) (w : World) : (Go.method 429 124 v "Unwrap").run Tryz.prog w = .ok (243, v) w := by kernel_rfl
theorem noAsE (v:Value) (xT:TypeId) (w:World):(Instr.typeAssert (.iface 48 v) xT 243 true).run Tryz.prog w=.ok (.tuple #[.nilIface,.bool false]) w:=run_typeAssert_lacksB Tryz.underlying243 (by kernel_rfl) (by kernel_rfl) v xT w
theorem noAsF (v:Value) (xT:TypeId) (w:World):(Instr.typeAssert (.iface 124 v) xT 243 true).run Tryz.prog w=.ok (.tuple #[.nilIface,.bool false]) w:=run_typeAssert_lacksB Tryz.underlying243 (by kernel_rfl) (by kernel_rfl) v xT w
theorem noUnwrapE (v:Value) (xT:TypeId) (w:World):(Instr.typeAssert (.iface 48 v) xT 246 true).run Tryz.prog w=.ok (.tuple #[.nilIface,.bool false]) w:=run_typeAssert_lacksB Tryz.underlying246 (by kernel_rfl) (by kernel_rfl) v xT w
theorem qxh (v:Value) (xT:TypeId) (w:World):(Instr.typeAssert (.iface 124 v) xT 246 true).run Tryz.prog w=.ok (.tuple #[.iface 124 v,.bool true]) w:=run_typeAssert_hasB Tryz.underlying246 (by kernel_rfl) v xT w
theorem qxi (v:Value) (xT:TypeId) (w:World):(Instr.typeAssert (.iface 48 v) xT 247 true).run Tryz.prog w=.ok (.tuple #[.nilIface,.bool false]) w:=run_typeAssert_lacksB Tryz.underlying247 (by kernel_rfl) (by kernel_rfl) v xT w
theorem typeOfE (v:Value) (w:World):(ReflectliteType.typeOf #[.iface 48 v]).run Tryz.prog w=.ok (.iface 238 (.agg #[.pointer (some ⟨1,48,none⟩)])) w:=by kernel_rfl
theorem typeOfF (v:Value) (w:World):(ReflectliteType.typeOf #[.iface 124 v]).run Tryz.prog w=.ok (.iface 238 (.agg #[.pointer (some ⟨1,124,none⟩)])) w:=by kernel_rfl
theorem assignEE (w : World) : (ReflectliteType.relation "AssignableTo" ReflectliteType.assignableTo #[.agg #[.pointer (some ⟨1, 48, none⟩)], .iface 238 (.agg #[.pointer (some ⟨1, 48, none⟩)])]).run Tryz.prog w = .ok (.bool true) w := by kernel_rfl
theorem assignFE (w : World) : (ReflectliteType.relation "AssignableTo" ReflectliteType.assignableTo #[.agg #[.pointer (some ⟨1, 124, none⟩)], .iface 238 (.agg #[.pointer (some ⟨1, 48, none⟩)])]).run Tryz.prog w = .ok (.bool false) w := by kernel_rfl
theorem assignFF (w : World) : (ReflectliteType.relation "AssignableTo" ReflectliteType.assignableTo #[.agg #[.pointer (some ⟨1, 124, none⟩)], .iface 238 (.agg #[.pointer (some ⟨1, 124, none⟩)])]).run Tryz.prog w = .ok (.bool true) w := by kernel_rfl
theorem assignEF (w : World) : (ReflectliteType.relation "AssignableTo" ReflectliteType.assignableTo #[.agg #[.pointer (some ⟨1, 48, none⟩)], .iface 238 (.agg #[.pointer (some ⟨1, 124, none⟩)])]).run Tryz.prog w = .ok (.bool false) w := by kernel_rfl
theorem kindPE (w:World):((ReflectliteType.abiMethod fun t=>(fun a:Nat=>Value.int IntKind.u8 (a:Int)) <$> Rtype.kind t) #[.pointer (some ⟨1,110,none⟩)]).run Tryz.prog w=.ok (.int .u8 22) w:=by kernel_rfl
theorem kindPPF (w:World):((ReflectliteType.abiMethod fun t=>(fun a:Nat=>Value.int IntKind.u8 (a:Int)) <$> Rtype.kind t) #[.pointer (some ⟨1,231,none⟩)]).run Tryz.prog w=.ok (.int .u8 22) w:=by kernel_rfl
theorem kindE (w:World):((ReflectliteType.abiMethod fun t=>(fun a:Nat=>Value.int IntKind.u8 (a:Int)) <$> Rtype.kind t) #[.pointer (some ⟨1,48,none⟩)]).run Tryz.prog w=.ok (.int .u8 2) w:=by kernel_rfl
theorem kindPF (w:World):((ReflectliteType.abiMethod fun t=>(fun a:Nat=>Value.int IntKind.u8 (a:Int)) <$> Rtype.kind t) #[.pointer (some ⟨1,124,none⟩)]).run Tryz.prog w=.ok (.int .u8 22) w:=by kernel_rfl
theorem elemPE (w:World):(ReflectliteType.method ReflectliteType.elem #[.agg #[.pointer (some ⟨1,110,none⟩)]]).run Tryz.prog w=.ok (.iface 238 (.agg #[.pointer (some ⟨1,48,none⟩)])) w:=by kernel_rfl
theorem elemPPF (w:World):(ReflectliteType.method ReflectliteType.elem #[.agg #[.pointer (some ⟨1,231,none⟩)]]).run Tryz.prog w=.ok (.iface 238 (.agg #[.pointer (some ⟨1,124,none⟩)])) w:=by kernel_rfl
theorem implE (w : World) : (ReflectliteType.relation "Implements" ReflectliteType.implements_ #[.agg #[.pointer (some ⟨1, 48, none⟩)], .iface 238 (.agg #[.pointer (some ⟨1, 39, none⟩)])]).run Tryz.prog w = .ok (.bool true) w := by kernel_rfl
theorem implF (w : World) : (ReflectliteType.relation "Implements" ReflectliteType.implements_ #[.agg #[.pointer (some ⟨1, 124, none⟩)], .iface 238 (.agg #[.pointer (some ⟨1, 39, none⟩)])]).run Tryz.prog w = .ok (.bool true) w := by kernel_rfl
theorem valueOfPE (t:Addr) (w:World):(ReflectliteValue.unpack (.iface 110 (.pointer (some t)))).run Tryz.prog w
 = .ok (.agg #[.pointer (some ⟨1,110,none⟩),.pointer (some ⟨w.heap.size,0,none⟩),.int .u64 150]) (w.alloc (.cells #[.pointer (some t)] 110)):=by kernel_rfl
theorem qna (t:Addr) (w:World):(ReflectliteValue.unpack (.iface 231 (.pointer (some t)))).run Tryz.prog w
 = .ok (.agg #[.pointer (some ⟨1,231,none⟩),.pointer (some ⟨w.heap.size,0,none⟩),.int .u64 150]) (w.alloc (.cells #[.pointer (some t)] 231)):=by kernel_rfl
theorem valueOfE (c:Int) (w:World):(ReflectliteValue.unpack (.iface 48 (.int .i64 c))).run Tryz.prog w
 = .ok (.agg #[.pointer (some ⟨1,48,none⟩),.pointer (some ⟨w.heap.size,0,none⟩),.int .u64 130]) (w.alloc (.cells #[.int .i64 c] 48)):=by kernel_rfl
theorem valueOfF (e:Addr) (w:World):(ReflectliteValue.unpack (.iface 124 (.pointer (some e)))).run Tryz.prog w
 = .ok (.agg #[.pointer (some ⟨1,124,none⟩),.pointer (some ⟨w.heap.size,0,none⟩),.int .u64 150]) (w.alloc (.cells #[.pointer (some e)] 124)):=by kernel_rfl
theorem typePE (a : Addr) (w : World) : (ReflectliteValue.methodAny (ReflectliteValue.valueError "reflectlite.Value.Type" 0) (fun t _ _ _ => ReflectliteType.toType t) #[.agg #[.pointer (some ⟨1, 110, none⟩), .pointer (some a), .int .u64 150]]).run Tryz.prog w
 = .ok (.iface 238 (.agg #[.pointer (some ⟨1,110,none⟩)])) w:=by kernel_rfl
theorem typePPF (a : Addr) (w : World) : (ReflectliteValue.methodAny (ReflectliteValue.valueError "reflectlite.Value.Type" 0) (fun t _ _ _ => ReflectliteType.toType t) #[.agg #[.pointer (some ⟨1, 231, none⟩), .pointer (some a), .int .u64 150]]).run Tryz.prog w
 = .ok (.iface 238 (.agg #[.pointer (some ⟨1,231,none⟩)])) w:=by kernel_rfl
theorem partsPE (a:Addr) (w:World):(ReflectliteValue.parts (.agg #[.pointer (some ⟨1,110,none⟩),.pointer (some a),.int .u64 150])).run Tryz.prog w=.ok (some (110,a,150)) w:=by kernel_rfl
theorem qup (a:Addr) (w:World):(ReflectliteValue.parts (.agg #[.pointer (some ⟨1,231,none⟩),.pointer (some a),.int .u64 150])).run Tryz.prog w=.ok (some (231,a,150)) w:=by kernel_rfl
theorem isNilPE (a p:Addr) (W:World) (ha:W.cell? a=some (.pointer (some p))) :
 (ReflectliteValue.method (ReflectliteValue.valueError "reflectlite.Value.IsNil" 0) ReflectliteValue.isNil #[.agg #[.pointer (some ⟨1, 110, none⟩), .pointer (some a), .int .u64 150]]).run Tryz.prog W = .ok (.bool false) W := by
 rw [qio]
 simp only [Sem.run_bind,partsPE,Result.andThen]
 simp [ReflectliteValue.isNil,loadVar,isAgg,underlying,Tryz.underlying110,ha,Result.andThen]
theorem quq (a p:Addr) (W:World) (ha:W.cell? a=some (.pointer (some p))) :
 (ReflectliteValue.method (ReflectliteValue.valueError "reflectlite.Value.IsNil" 0) ReflectliteValue.isNil #[.agg #[.pointer (some ⟨1, 231, none⟩), .pointer (some a), .int .u64 150]]).run Tryz.prog W = .ok (.bool false) W := by
 rw [qio]
 simp only [Sem.run_bind,qup,Result.andThen]
 simp [ReflectliteValue.isNil,loadVar,isAgg,underlying,Tryz.underlying231,ha,Result.andThen]
theorem elemOfPE (w:World):(Rtype.elem? 110).run Tryz.prog w=.ok (some 48) w:=by kernel_rfl
theorem elemOfPPF (w:World):(Rtype.elem? 231).run Tryz.prog w=.ok (some 124) w:=by kernel_rfl
theorem mkE (p:Addr) (w:World):(ReflectliteValue.mk 48 p ReflectliteValue.flagAddr).run Tryz.prog w=.ok (.agg #[.pointer (some ⟨1,48,none⟩),.pointer (some p),.int .u64 386]) w:=by kernel_rfl
theorem mkF (p:Addr) (w:World):(ReflectliteValue.mk 124 p ReflectliteValue.flagAddr).run Tryz.prog w=.ok (.agg #[.pointer (some ⟨1,124,none⟩),.pointer (some p),.int .u64 406]) w:=by kernel_rfl
theorem elemVPE (a p:Addr) (W:World) (ha:W.cell? a=some (.pointer (some p))) :
 (ReflectliteValue.method (ReflectliteValue.valueError "reflectlite.Value.Elem" 0) ReflectliteValue.elem #[.agg #[.pointer (some ⟨1, 110, none⟩), .pointer (some a), .int .u64 150]]).run Tryz.prog W
   = .ok (.agg #[.pointer (some ⟨1,48,none⟩),.pointer (some p),.int .u64 386]) W:=by
 rw [qio]
 simp only [Sem.run_bind,partsPE,Result.andThen]
 simp [ReflectliteValue.elem,loadVar,isAgg,underlying,Tryz.underlying110,ha,Result.andThen,elemOfPE,mkE]
theorem elemVPPF (a p:Addr) (W:World) (ha:W.cell? a=some (.pointer (some p))) :
 (ReflectliteValue.method (ReflectliteValue.valueError "reflectlite.Value.Elem" 0) ReflectliteValue.elem #[.agg #[.pointer (some ⟨1, 231, none⟩), .pointer (some a), .int .u64 150]]).run Tryz.prog W
   = .ok (.agg #[.pointer (some ⟨1,124,none⟩),.pointer (some p),.int .u64 406]) W:=by
 rw [qio]
 simp only [Sem.run_bind,qup,Result.andThen]
 simp [ReflectliteValue.elem,loadVar,isAgg,underlying,Tryz.underlying231,ha,Result.andThen,elemOfPPF,mkF]
theorem partsEa (a:Addr) (w:World):(ReflectliteValue.parts (.agg #[.pointer (some ⟨1,48,none⟩),.pointer (some a),.int .u64 386])).run Tryz.prog w=.ok (some (48,a,386)) w:=by kernel_rfl
theorem partsE (a:Addr) (w:World):(ReflectliteValue.parts (.agg #[.pointer (some ⟨1,48,none⟩),.pointer (some a),.int .u64 130])).run Tryz.prog w=.ok (some (48,a,130)) w:=by kernel_rfl
theorem partsFa (a:Addr) (w:World):(ReflectliteValue.parts (.agg #[.pointer (some ⟨1,124,none⟩),.pointer (some a),.int .u64 406])).run Tryz.prog w=.ok (some (124,a,406)) w:=by kernel_rfl
theorem partsF (a:Addr) (w:World):(ReflectliteValue.parts (.agg #[.pointer (some ⟨1,124,none⟩),.pointer (some a),.int .u64 150])).run Tryz.prog w=.ok (some (124,a,150)) w:=by kernel_rfl
theorem directE (w:World):(Rtype.directlyAssignable 48 48).run Tryz.prog w=.ok true w:=by kernel_rfl
theorem directF (w:World):(Rtype.directlyAssignable 124 124).run Tryz.prog w=.ok true w:=by kernel_rfl
theorem setE (ta b:Addr) (c:Int) (old:Value) (W:World) (hb:W.cell? b=some (.int .i64 c)) (ht:W.cell? ta=some old) (hf:W.frozen? ta=false) :
 (ReflectliteValue.set #[.agg #[.pointer (some ⟨1,48,none⟩),.pointer (some ta),.int .u64 386],.agg #[.pointer (some ⟨1,48,none⟩),.pointer (some b),.int .u64 130]]).run Tryz.prog W
   = .ok (.tuple #[]) (W.setCell ta (.int .i64 c)):=by
 rw [rl_set]
 simp only [Sem.run_bind,partsEa,partsE,Result.andThen]
 simp [ReflectliteValue.flagAddr,loadVar,isAgg,underlying,Tryz.underlying48,hb,Result.andThen,directE,storeVar,Value.cells,storeCells,Addr.add]
 rw [run_store Tryz.prog W ta _ _ (by rfl)]
 simp [ht,hf]
theorem setF (ta b e:Addr) (old:Value) (W:World) (hb:W.cell? b=some (.pointer (some e))) (ht:W.cell? ta=some old) (hf:W.frozen? ta=false) :
 (ReflectliteValue.set #[.agg #[.pointer (some ⟨1,124,none⟩),.pointer (some ta),.int .u64 406],.agg #[.pointer (some ⟨1,124,none⟩),.pointer (some b),.int .u64 150]]).run Tryz.prog W
   = .ok (.tuple #[]) (W.setCell ta (.pointer (some e))):=by
 rw [rl_set]
 simp only [Sem.run_bind,partsFa,partsF,Result.andThen]
 simp [ReflectliteValue.flagAddr,loadVar,isAgg,underlying,Tryz.underlying124,hb,Result.andThen,directF,storeVar,Value.cells,storeCells,Addr.add]
 rw [run_store Tryz.prog W ta _ _ (by rfl)]
 simp [ht,hf]
theorem qxj (b o:Nat) (u:Value) (w:World) (h:w.cell? ⟨b,o + 1,none⟩=some u) :
 Calls Tryz.prog 243 #[.pointer (some ⟨b,o,none⟩)] w fun e w'=>e=.returned u∧w=w':=by
 go_enter Tryz.func243,Tryz.ntmps243
 go_wp2
 go_ret
 exact ⟨rfl,rfl⟩
end Go.Proofs.YtnmojicfmcbgmaaGreatDoor
namespace Go.Proofs.YtnmojicfmcbgmaaGreatDoor
open Go.RowKit Go.Extern.Stop Go.Stop Go.Extern
def Glob (w:World):Prop:=w.cell? ⟨0,0,none⟩=some (.iface 238 (.agg #[.pointer (some ⟨1,39,none⟩)]))
theorem Glob.below {w w':World} (h:Glob w) (hb:Below w.heap.size w w'):Glob w':=(hb.cell (p:=⟨0,0,none⟩) (qap h)).trans h
theorem qjs (args:Array Value) (w:World):(callFunc 146 args).run Tryz.prog w=(((ReflectliteType.typeOf) args).run Tryz.prog w).andThen fun v w'=>.ok (.value v) w' :=
 @run_callFunc_extern Tryz.prog 146 _ (ReflectliteType.typeOf) Tryz.func146 (by kernel_rfl) (by kernel_rfl) (by kernel_rfl) (by kernel_rfl) args w
theorem qfi (args:Array Value) (w:World):(callFunc 98 args).run Tryz.prog w=((((fun args=>ReflectliteValue.unpack (args.getD 0 (.tuple #[])))) args).run Tryz.prog w).andThen fun v w'=>.ok (.value v) w' :=
 @run_callFunc_extern Tryz.prog 98 _ ((fun args=>ReflectliteValue.unpack (args.getD 0 (.tuple #[])))) Tryz.func98 (by kernel_rfl) (by kernel_rfl) (by kernel_rfl) (by kernel_rfl) args w
theorem qoh (args : Array Value) (w : World) : (callFunc 99 args).run Tryz.prog w = ((((ReflectliteValue.methodAny (ReflectliteValue.valueError "reflectlite.Value.Type" 0) (fun t _ _ _ => ReflectliteType.toType t))) args).run Tryz.prog w).andThen fun v w' => .ok (.value v) w' :=
 @run_callFunc_extern Tryz.prog 99 _ ((ReflectliteValue.methodAny (ReflectliteValue.valueError "reflectlite.Value.Type" 0) (fun t _ _ _ => ReflectliteType.toType t))) Tryz.func99 (by kernel_rfl) (by kernel_rfl) (by kernel_rfl) (by kernel_rfl) args w
theorem qlf (args : Array Value) (w : World) : (callFunc 100 args).run Tryz.prog w = ((((ReflectliteValue.method (ReflectliteValue.valueError "reflectlite.Value.IsNil" 0) ReflectliteValue.isNil)) args).run Tryz.prog w).andThen fun v w' => .ok (.value v) w' :=
 @run_callFunc_extern Tryz.prog 100 _ ((ReflectliteValue.method (ReflectliteValue.valueError "reflectlite.Value.IsNil" 0) ReflectliteValue.isNil)) Tryz.func100 (by kernel_rfl) (by kernel_rfl) (by kernel_rfl) (by kernel_rfl) args w
theorem qoi (args:Array Value) (w:World):(callFunc 236 args).run Tryz.prog w=((((ReflectliteType.abiMethod fun t=>do pure (.int .u8 (← Rtype.kind t)))) args).run Tryz.prog w).andThen fun v w'=>.ok (.value v) w' :=
 @run_callFunc_extern Tryz.prog 236 _ ((ReflectliteType.abiMethod fun t=>do pure (.int .u8 (← Rtype.kind t)))) Tryz.func236 (by kernel_rfl) (by kernel_rfl) (by kernel_rfl) (by kernel_rfl) args w
theorem qoj (args:Array Value) (w:World):(callFunc 250 args).run Tryz.prog w=((((ReflectliteType.method ReflectliteType.elem)) args).run Tryz.prog w).andThen fun v w'=>.ok (.value v) w' :=
 @run_callFunc_extern Tryz.prog 250 _ ((ReflectliteType.method ReflectliteType.elem)) Tryz.func250 (by kernel_rfl) (by kernel_rfl) (by kernel_rfl) (by kernel_rfl) args w
theorem qfu (args : Array Value) (w : World) : (callFunc 251 args).run Tryz.prog w = ((((ReflectliteType.relation "Implements" ReflectliteType.implements_)) args).run Tryz.prog w).andThen fun v w' => .ok (.value v) w' :=
 @run_callFunc_extern Tryz.prog 251 _ ((ReflectliteType.relation "Implements" ReflectliteType.implements_)) Tryz.func251 (by kernel_rfl) (by kernel_rfl) (by kernel_rfl) (by kernel_rfl) args w
theorem qfv (args : Array Value) (w : World) : (callFunc 248 args).run Tryz.prog w = ((((ReflectliteType.relation "AssignableTo" ReflectliteType.assignableTo)) args).run Tryz.prog w).andThen fun v w' => .ok (.value v) w' :=
 @run_callFunc_extern Tryz.prog 248 _ ((ReflectliteType.relation "AssignableTo" ReflectliteType.assignableTo)) Tryz.func248 (by kernel_rfl) (by kernel_rfl) (by kernel_rfl) (by kernel_rfl) args w
theorem qqe (args : Array Value) (w : World) : (callFunc 147 args).run Tryz.prog w = ((((ReflectliteValue.method (ReflectliteValue.valueError "reflectlite.Value.Elem" 0) ReflectliteValue.elem)) args).run Tryz.prog w).andThen fun v w' => .ok (.value v) w' :=
 @run_callFunc_extern Tryz.prog 147 _ ((ReflectliteValue.method (ReflectliteValue.valueError "reflectlite.Value.Elem" 0) ReflectliteValue.elem)) Tryz.func147 (by kernel_rfl) (by kernel_rfl) (by kernel_rfl) (by kernel_rfl) args w
theorem ext_set (args:Array Value) (w:World):(callFunc 148 args).run Tryz.prog w=(((ReflectliteValue.set) args).run Tryz.prog w).andThen fun v w'=>.ok (.value v) w' :=
 @run_callFunc_extern Tryz.prog 148 _ (ReflectliteValue.set) Tryz.func148 (by kernel_rfl) (by kernel_rfl) (by kernel_rfl) (by kernel_rfl) args w
theorem asE_any (ops:List ByteArray) (c:Int) (v:Value) (t a:Addr) (old:Value) (w:World) (h:Chain w ops c v) (ha:w.cell? a=some (.pointer (some t))) (ht:w.cell? t=some old) (hf:w.frozen? t=false) :
 Calls Tryz.prog 101 #[v,.iface 110 (.pointer (some t)),.agg #[.pointer (some ⟨1,110,none⟩),.pointer (some a),.int .u64 150],.iface 238 (.agg #[.pointer (some ⟨1,48,none⟩)])] w fun ev w' =>
  ev=.returned (.bool true)∧w'=((w.alloc (.cells #[.pointer (some ⟨1,110,none⟩),.pointer (some a),.int .u64 150] 177)).alloc (.cells #[.int .i64 c] 48)).setCell t (.int .i64 c):=by
 have htl:=qap ht
 have hal:=qap ha
 have h1:=qjs
 have h2:=qfv
 have h3:=qfi
 have h4:=qqe
 have h5:=ext_set
 have f1:=typeOfE
 have f2:=typeOfF
 have f3:=assignEE
 have f4:=assignFE
 have f5:=valueOfE
 have f6:=qdw
 have f7:=noAsF
 have f8:=qxh
 have f9:=qqd
 have el:=elemVPE a t (w.alloc (.cells #[.pointer (some ⟨1,110,none⟩),.pointer (some a),.int .u64 150] 177)) (by rw [World.cell?_alloc_lt _ _ a hal];exact ha)
 have st:=setE t ⟨w.heap.size + 1,0,none⟩ c old ((w.alloc (.cells #[.pointer (some ⟨1,110,none⟩),.pointer (some a),.int .u64 150] 177)).alloc (.cells #[.int .i64 c] 48))
  (by rw [World.cell?_alloc_at _ _ _ _ (by simp)];rfl)
  (by rw [World.cell?_alloc_lt _ _ t (by simp;omega),World.cell?_alloc_lt _ _ t htl];exact ht)
  (by rw [World.frozen?_alloc_old _ _ t (by simp;omega),World.frozen?_alloc_old _ _ t (Nat.ne_of_lt htl)];exact hf)
 have HC:=hI h
 clear h ha ht hf htl hal
 go_enter Tryz.func101,Tryz.ntmps101
 go_wp2
 go_loopg [0] ops.length (fun k v wr=>wr=w.alloc (.cells #[.pointer (some ⟨1,110,none⟩),.pointer (some a),.int .u64 150] 177)∧∃ l:List ByteArray,l.length=k∧Chain w l c v)
 case atStart=>exact ⟨rfl,ops,rfl,HC.out⟩
 case round =>
  obtain ⟨rfl,l,hl,hch⟩:=hrel
  cases l with
  | nil =>
    obtain rfl:_=_:=hch
    clear hl
    go_wp2
    go_ret
    exact ⟨rfl,rfl⟩
  | cons op l =>
    obtain ⟨b,o,u,rfl,hc0,hc1,hu,_⟩:=hch
    have hblt:=qap hc1
    have HU:=hI (qxj b o u (w.alloc (.cells #[.pointer (some ⟨1,110,none⟩),.pointer (some a),.int .u64 150] 177)) (by rw [World.cell?_alloc_lt _ _ ⟨b,o + 1,none⟩ hblt];exact hc1))
    have HL:=hI hl
    have HV:=hI hu
    clear hc0 hc1 hblt hl
    cases l with
    | nil =>
      obtain rfl:u=_:=hu
      go_wp2_with (go_at_call 243;refine HU.out.mono ?_;rintro e w' ⟨rfl,rfl⟩)
      go_roundg 0
      case rel=>exact ⟨rfl,[],rfl,rfl⟩
      case measure=>have:=HL.out;simp at this;omega
    | cons op' l =>
      obtain ⟨b',o',u',rfl,_⟩:=hu
      go_wp2_with (go_at_call 243;refine HU.out.mono ?_;rintro e w' ⟨rfl,rfl⟩)
      go_roundg (l.length + 1)
      case rel=>exact ⟨rfl,op' :: l,rfl,HV.out⟩
      case measure=>have:=HL.out;simp at this;omega
theorem asF_any (p t a:Addr) (old:Value) (w:World) (ha:w.cell? a=some (.pointer (some t))) (ht:w.cell? t=some old) (hf:w.frozen? t=false) :
 Calls Tryz.prog 101 #[.iface 124 (.pointer (some p)),.iface 231 (.pointer (some t)),.agg #[.pointer (some ⟨1,231,none⟩),.pointer (some a),.int .u64 150],.iface 238 (.agg #[.pointer (some ⟨1,124,none⟩)])] w fun ev w' =>
  ev=.returned (.bool true)∧w'=((w.alloc (.cells #[.pointer (some ⟨1,231,none⟩),.pointer (some a),.int .u64 150] 177)).alloc (.cells #[.pointer (some p)] 124)).setCell t (.pointer (some p)):=by
 have htl:=qap ht
 have hal:=qap ha
 have h1:=qjs
 have h2:=qfv
 have h3:=qfi
 have h4:=qqe
 have h5:=ext_set
 have f2:=typeOfF
 have f4:=assignFF
 have f5:=valueOfF
 have f6:=qdw
 have el:=elemVPPF a t (w.alloc (.cells #[.pointer (some ⟨1,231,none⟩),.pointer (some a),.int .u64 150] 177)) (by rw [World.cell?_alloc_lt _ _ a hal];exact ha)
 have st:=setF t ⟨w.heap.size + 1,0,none⟩ p old ((w.alloc (.cells #[.pointer (some ⟨1,231,none⟩),.pointer (some a),.int .u64 150] 177)).alloc (.cells #[.pointer (some p)] 124))
  (by rw [World.cell?_alloc_at _ _ _ _ (by simp)];rfl)
  (by rw [World.cell?_alloc_lt _ _ t (by simp;omega),World.cell?_alloc_lt _ _ t htl];exact ht)
  (by rw [World.frozen?_alloc_old _ _ t (by simp;omega),World.frozen?_alloc_old _ _ t (Nat.ne_of_lt htl)];exact hf)
 clear ha ht hf htl hal
 go_enter Tryz.func101,Tryz.ntmps101
 go_wp2
 refine wp_loop_rounds 1 ?_
 rw [rounds_succ]
 go_wp2
 go_ret
 exact ⟨rfl,rfl⟩
theorem asN_any (c:Int) (t a:Addr) (w:World) :
 Calls Tryz.prog 101 #[.iface 48 (.int .i64 c),.iface 231 (.pointer (some t)),.agg #[.pointer (some ⟨1,231,none⟩),.pointer (some a),.int .u64 150],.iface 238 (.agg #[.pointer (some ⟨1,124,none⟩)])] w fun ev w' =>
  ev=.returned (.bool false)∧w'=w.alloc (.cells #[.pointer (some ⟨1,231,none⟩),.pointer (some a),.int .u64 150] 177):=by
 have h1:=qjs
 have h2:=qfv
 have f2:=typeOfE
 have f4:=assignEF
 have f6:=qdw
 have f7:=noAsE
 have f8:=noUnwrapE
 have f9:=qxi
 go_enter Tryz.func101,Tryz.ntmps101
 go_wp2
 refine wp_loop_rounds 1 ?_
 rw [rounds_succ]
 go_wp2
 go_ret
 exact ⟨rfl,rfl⟩
theorem AsNil_any (t:Value) (w:World) :
 Calls Tryz.prog 49 #[.nilIface,t] w fun e w'=>e=.returned (.bool false)∧w=w':=by
 go_enter Tryz.func49,Tryz.ntmps49
 go_wp2
 go_ret
 exact ⟨rfl,rfl⟩
end Go.Proofs.YtnmojicfmcbgmaaGreatDoor
namespace Go.Proofs.YtnmojicfmcbgmaaGreatDoor
open Go.RowKit Go.Extern.Stop Go.Stop Go.Extern
structure Hit (w:World) (t:Addr) (u:Value) (w':World):Prop where
 cell:w'.cell? t=some u
 grown:w.grownBy w' (some t.block)
theorem qfj {a w:World} {row:Option Nat} (h:a.grownBy w row) (o:Obj):a.grownBy (w.alloc o) row :=
 ⟨h.os,h.tape,h.output,Nat.le_trans h.size (by simp),fun i hi hne=>(Below.heap_alloc w o i (Nat.lt_of_lt_of_le hi h.size)).trans (h.block i hi hne)⟩
theorem qal {a w:World} {g:Nat} (h:a.grownBy w (some g)) {p:Addr} (hp:p.block=g) (u:Value):a.grownBy (w.setCell p u) (some g) :=
 ⟨h.os,h.tape,h.output,by simpa [World.setCell] using h.size,fun i hi hne=>(Below.heap_setCell w p u i (by rintro rfl;exact hne (by rw [hp]))).trans (h.block i hi hne)⟩
theorem hit_of {w:World} {t:Addr} {u old:Value} (ht:w.cell? t=some old) (o1 o2 o3 o4:Obj):Hit w t u (((((w.alloc o1).alloc o2).alloc o3).alloc o4).setCell t u):=by
 have htl:=qap ht
 have e1:((((w.alloc o1).alloc o2).alloc o3).alloc o4).cell? t=some old:=by
  rw [World.cell?_alloc_lt _ _ t (by simp;omega),World.cell?_alloc_lt _ _ t (by simp;omega),World.cell?_alloc_lt _ _ t (by simp;omega),World.cell?_alloc_lt _ _ t htl];exact ht
 exact ⟨World.cell?_setCell_same _ _ _ e1,qal (qfj (qfj (qfj (qfj (World.grownBy.refl w _) o1) o2) o3) o4) rfl u⟩
theorem qca {w a b:World} (h:Below w.heap.size w a) {g:Nat} (hg:a.grownBy b (some g)) (hlt:w.heap.size≤g):Below w.heap.size w b :=
 ⟨hg.os.trans h.os,hg.tape.trans h.tape,hg.output.trans h.output,Nat.le_trans h.size hg.size,fun i hi=>(hg.block i (Nat.lt_of_lt_of_le hi h.size) (by intro e;injection e with e;omega)).trans (h.block i hi)⟩
set_option maxHeartbeats 1000000 in
theorem AsE_any (ops:List ByteArray) (c:Int) (v:Value) (t:Addr) (old:Value) (w:World) (hg:Glob w) (h:Chain w ops c v) (ht:w.cell? t=some old) (hf:w.frozen? t=false) :
 Calls Tryz.prog 49 #[v,.iface 110 (.pointer (some t))] w fun ev w'=>ev=.returned (.bool true)∧Hit w t (.int .i64 c) w':=by
 have htl:=qap ht
 have h1:=qfi
 have h2:=qoh
 have h3:=qlf
 have h4:=qoi
 have h5:=qoj
 have h6:=qfu
 have f1:=valueOfPE
 have f2:=typePE
 have f3:=qjq
 have f4:=qjr
 have f5:=qev
 have f6:=kindPE
 have f7:=kindE
 have f8:=elemPE
 have f9:=implE
 have n8:=isNilPE ⟨w.heap.size,0,none⟩ t ((w.alloc (.cells #[.pointer (some t)] 110)).alloc (.cells #[.pointer (some ⟨1,110,none⟩),.pointer (some ⟨w.heap.size,0,none⟩),.int .u64 150] 177)) (by simp)
 have hg1:((w.alloc (.cells #[.pointer (some t)] 110)).alloc (.cells #[.pointer (some ⟨1,110,none⟩),.pointer (some ⟨w.heap.size,0,none⟩),.int .u64 150] 177)).cell? ⟨0,0,none⟩=some (.iface 238 (.agg #[.pointer (some ⟨1,39,none⟩)])) :=
  hg.below (qad (bel1 w _) _)
 have HA:=hI (asE_any ops c v t ⟨w.heap.size,0,none⟩ old ((w.alloc (.cells #[.pointer (some t)] 110)).alloc (.cells #[.pointer (some ⟨1,110,none⟩),.pointer (some ⟨w.heap.size,0,none⟩),.int .u64 150] 177))
  (h.below (qad (bel1 w _) _)) (by simp)
  (by rw [World.cell?_alloc_lt _ _ t (by simp;omega),World.cell?_alloc_lt _ _ t htl];exact ht)
  (by rw [World.frozen?_alloc_old _ _ t (by simp;omega),World.frozen?_alloc_old _ _ t (Nat.ne_of_lt htl)];exact hf))
 have HT:=hI ht
 clear hg htl ht hf
 cases ops with
 | nil =>
   obtain rfl:_=_:=h
   go_enter Tryz.func49,Tryz.ntmps49
   go_wp2_with (go_at_call 101;refine HA.out.mono ?_;rintro e w' ⟨rfl,rfl⟩)
   go_ret
   exact ⟨rfl,hit_of HT.out _ _ _ _⟩
 | cons op ops =>
   obtain ⟨b,o,u,rfl,_⟩:=h
   go_enter Tryz.func49,Tryz.ntmps49
   go_wp2_with (go_at_call 101;refine HA.out.mono ?_;rintro e w' ⟨rfl,rfl⟩)
   go_ret
   exact ⟨rfl,hit_of HT.out _ _ _ _⟩
set_option maxHeartbeats 1000000 in
theorem AsF_any (p t:Addr) (old:Value) (w:World) (hg:Glob w) (ht:w.cell? t=some old) (hf:w.frozen? t=false) :
 Calls Tryz.prog 49 #[.iface 124 (.pointer (some p)),.iface 231 (.pointer (some t))] w fun ev w'=>ev=.returned (.bool true)∧Hit w t (.pointer (some p)) w':=by
 have htl:=qap ht
 have h1:=qfi
 have h2:=qoh
 have h3:=qlf
 have h4:=qoi
 have h5:=qoj
 have h6:=qfu
 have f1:=qna
 have f2:=typePPF
 have f3:=qjq
 have f4:=qjr
 have f5:=qev
 have f6:=kindPPF
 have f7:=kindPF
 have f8:=elemPPF
 have f9:=implF
 have n8:=quq ⟨w.heap.size,0,none⟩ t ((w.alloc (.cells #[.pointer (some t)] 231)).alloc (.cells #[.pointer (some ⟨1,231,none⟩),.pointer (some ⟨w.heap.size,0,none⟩),.int .u64 150] 177)) (by simp)
 have hg1:((w.alloc (.cells #[.pointer (some t)] 231)).alloc (.cells #[.pointer (some ⟨1,231,none⟩),.pointer (some ⟨w.heap.size,0,none⟩),.int .u64 150] 177)).cell? ⟨0,0,none⟩=some (.iface 238 (.agg #[.pointer (some ⟨1,39,none⟩)])) :=
  hg.below (qad (bel1 w _) _)
 have HA:=hI (asF_any p t ⟨w.heap.size,0,none⟩ old ((w.alloc (.cells #[.pointer (some t)] 231)).alloc (.cells #[.pointer (some ⟨1,231,none⟩),.pointer (some ⟨w.heap.size,0,none⟩),.int .u64 150] 177))
  (by simp)
  (by rw [World.cell?_alloc_lt _ _ t (by simp;omega),World.cell?_alloc_lt _ _ t htl];exact ht)
  (by rw [World.frozen?_alloc_old _ _ t (by simp;omega),World.frozen?_alloc_old _ _ t (Nat.ne_of_lt htl)];exact hf))
 have HT:=hI ht
 clear hg htl ht hf
 go_enter Tryz.func49,Tryz.ntmps49
 go_wp2_with (go_at_call 101;refine HA.out.mono ?_;rintro e w' ⟨rfl,rfl⟩)
 go_ret
 exact ⟨rfl,hit_of HT.out _ _ _ _⟩
set_option maxHeartbeats 1000000 in
theorem AsN_any (c:Int) (t:Addr) (w:World) (hg:Glob w) :
 Calls Tryz.prog 49 #[.iface 48 (.int .i64 c),.iface 231 (.pointer (some t))] w fun ev w'=>ev=.returned (.bool false)∧Below w.heap.size w w':=by
 have h1:=qfi
 have h2:=qoh
 have h3:=qlf
 have h4:=qoi
 have h5:=qoj
 have h6:=qfu
 have f1:=qna
 have f2:=typePPF
 have f3:=qjq
 have f4:=qjr
 have f5:=qev
 have f6:=kindPPF
 have f7:=kindPF
 have f8:=elemPPF
 have f9:=implF
 have n8:=quq ⟨w.heap.size,0,none⟩ t ((w.alloc (.cells #[.pointer (some t)] 231)).alloc (.cells #[.pointer (some ⟨1,231,none⟩),.pointer (some ⟨w.heap.size,0,none⟩),.int .u64 150] 177)) (by simp)
 have hg1:((w.alloc (.cells #[.pointer (some t)] 231)).alloc (.cells #[.pointer (some ⟨1,231,none⟩),.pointer (some ⟨w.heap.size,0,none⟩),.int .u64 150] 177)).cell? ⟨0,0,none⟩=some (.iface 238 (.agg #[.pointer (some ⟨1,39,none⟩)])) :=
  hg.below (qad (bel1 w _) _)
 clear hg
 go_enter Tryz.func49,Tryz.ntmps49
 go_wp2_with (go_at_call 101;refine (asN_any _ _ _ _).mono ?_;rintro e w' ⟨rfl,rfl⟩)
 go_ret
 exact ⟨rfl,qad (qad (bel1 w _) _) _⟩
theorem qkn (ops:List ByteArray) (c:Int) (v:Value) (w:World) (hg:Glob w) (h:ErrV w ops c v) :
 Calls Tryz.prog 12 #[v] w fun e w'=>e=.returned (.int .i64 c)∧Below w.heap.size w w':=by
 rcases h with ⟨rfl,_,rfl⟩ | ⟨hc,h⟩
 ·clear hg
  go_enter Tryz.func12,Tryz.ntmps12
  go_wp2
  go_ret
  exact ⟨rfl,Below.refl _ _⟩
 ·have hc0:(c == 0)=false:=by simpa using hc
  have HA:=hI (AsE_any ops c v ⟨w.heap.size,0,none⟩ (.int .i64 0) (w.alloc (.cells #[.int .i64 0] 48)) (hg.below (bel1 w _)) (h.below (bel1 w _)) (by simp) (by simp))
  have hv:v≠.nilIface:=by
   cases ops with
   | nil=>rw [show v=_ from h];intro e;cases e
   | cons op ops=>obtain ⟨b,o,u,rfl,_⟩:=h;intro e;cases e
  clear hc hg
  have key:∀ V:Value,v=V→Calls Tryz.prog 49 #[V,.iface 110 (.pointer (some ⟨w.heap.size,0,none⟩))] (w.alloc (.cells #[.int .i64 0] 48)) fun ev w'=>ev=.returned (.bool true)∧Hit (w.alloc (.cells #[.int .i64 0] 48)) ⟨w.heap.size,0,none⟩ (.int .i64 c) w':=fun V e=>by rw [←e];exact HA.out
  have HK:=hI key
  clear HA key hv
  cases ops with
  | nil =>
    obtain rfl:_=_:=h
    go_enter Tryz.func12,Tryz.ntmps12
    go_wp2_with (go_at_call 49;refine (HK.out _ rfl).mono ?_;rintro e w' ⟨rfl,hh⟩;have hcell:=hh.cell;have HG:=hI hh.grown;clear hh)
    go_ret
    exact ⟨rfl,qca (bel1 w _) HG.out (Nat.le_refl _)⟩
  | cons op ops =>
    obtain ⟨b,o,u,rfl,_⟩:=h
    go_enter Tryz.func12,Tryz.ntmps12
    go_wp2_with (go_at_call 49;refine (HK.out _ rfl).mono ?_;rintro e w' ⟨rfl,hh⟩;have hcell:=hh.cell;have HG:=hI hh.grown;clear hh)
    go_ret
    exact ⟨rfl,qca (bel1 w _) HG.out (Nat.le_refl _)⟩
theorem qhy (op:ByteArray) (c:Int) (w:World) (hc:c≠0) :
 Calls Tryz.prog 20 #[.string op,.int .i64 c] w fun e w'=>∃ v,e=.returned v∧Chain w' [op] c v∧Below w.heap.size w w':=by
 have hc0:(c == 0)=false:=by simpa using hc
 have k0:(w.alloc (.cells #[.string op,.iface 48 (.int .i64 c)] 126)).cell? ⟨w.heap.size,0,none⟩=some (.string op):=by simp
 have k1:(w.alloc (.cells #[.string op,.iface 48 (.int .i64 c)] 126)).cell? ⟨w.heap.size,0 + 1,none⟩=some (.iface 48 (.int .i64 c)):=by simp
 have KF:Hid (Flt (w.alloc (.cells #[.string op,.iface 48 (.int .i64 c)] 126)) w.heap.size):=⟨_,_,by show (w.heap.push _)[w.heap.size]?=_;simp;exact ⟨rfl,rfl⟩⟩
 have K0:=hI k0
 have K1:=hI k1
 clear hc k0 k1
 go_enter Tryz.func20,Tryz.ntmps20
 go_wp2
 go_ret
 exact ⟨_,rfl,⟨_,0,_,rfl,K0.out,K1.out,rfl,KF.out⟩,bel1 w _⟩
theorem qur (op:ByteArray) (ops:List ByteArray) (c:Int) (v:Value) (w:World) (h:Chain w ops c v) :
 Calls Tryz.prog 29 #[.string op,v] w fun e w'=>∃ u,e=.returned u∧Chain w' (op :: ops) c u∧Below w.heap.size w w':=by
 have k0:(w.alloc (.cells #[.string op,v] 126)).cell? ⟨w.heap.size,0,none⟩=some (.string op):=by simp
 have k1:(w.alloc (.cells #[.string op,v] 126)).cell? ⟨w.heap.size,0 + 1,none⟩=some v:=by simp
 have K0:=hI k0
 have K1:=hI k1
 have HC:=hI (h.below (bel1 w (.cells #[.string op,v] 126)))
 have KF:Hid (Flt (w.alloc (.cells #[.string op,v] 126)) w.heap.size):=⟨_,_,by show (w.heap.push _)[w.heap.size]?=_;simp;exact ⟨rfl,rfl⟩⟩
 clear k0 k1
 cases ops with
 | nil =>
   obtain rfl:v=_:=h
   go_enter Tryz.func29,Tryz.ntmps29
   go_wp2
   go_ret
   exact ⟨_,rfl,⟨_,0,_,rfl,K0.out,K1.out,HC.out,KF.out⟩,bel1 w _⟩
 | cons op' ops =>
   obtain ⟨b,o,u,rfl,_⟩:=h
   go_enter Tryz.func29,Tryz.ntmps29
   go_wp2
   go_ret
   exact ⟨_,rfl,⟨_,0,_,rfl,K0.out,K1.out,HC.out,KF.out⟩,bel1 w _⟩
end Go.Proofs.YtnmojicfmcbgmaaGreatDoor
