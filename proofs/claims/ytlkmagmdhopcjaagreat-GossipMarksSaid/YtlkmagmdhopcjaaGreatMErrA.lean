/- Texts that the law leans on. -/
import Derived.LaidEql
import Derived.Stop.Asserts
import Derived.RowKitTokens
import Derived.Deep.LoopGhost
import Derived.Test.YtlkmagmdhopcjaaGreatMBase
namespace Go.Proofs.YtlkmagmdhopcjaaGreat
open Go.RowKit Go.Extern.Stop Go.Stop Go.Extern
def Flt (w:World) (b:Nat):Prop:=∃ cs f,w.heap[b]?=some (.cells cs 234 f)
def Chain (w:World):List ByteArray→Int→Value→Prop
 | [],c,v=>v=.iface 48 (.int .i64 c)
 | op :: ops,c,v=>∃ b o u,v=.iface 232 (.pointer (some ⟨b,o,none⟩))∧w.cell? ⟨b,o,none⟩=some (.string op)∧w.cell? ⟨b,o + 1,none⟩=some u∧Chain w ops c u∧Flt w b
theorem qff {w:World} {a:Addr} {v:Value} (h:w.cell? a=some v):a.block < w.heap.size:=by
 rcases Nat.lt_or_ge a.block w.heap.size with h1 | h1
 ·exact h1
 ·simp [World.cell?,Array.getElem?_eq_none h1] at h
theorem Flt.lt {w:World} {b:Nat} (h:Flt w b):b < w.heap.size:=by
 obtain ⟨cs,f,h⟩:=h
 exact (Array.getElem?_eq_some_iff.1 h).1
theorem Flt.below {w w':World} {b:Nat} (hb:Below w.heap.size w w') (h:Flt w b):Flt w' b:=by
 have hl:=h.lt
 obtain ⟨cs,f,h⟩:=h
 exact ⟨cs,f,(hb.block b hl).trans h⟩
theorem Chain.below {w w':World} (hb:Below w.heap.size w w'):∀ {ops:List ByteArray} {c:Int} {v:Value},Chain w ops c v→Chain w' ops c v
 | [],_,_,h=>h
 | _ :: _,_,_,⟨b,o,u,h1,h2,h3,h4,h5⟩=>⟨b,o,u,h1,(hb.cell (p:=⟨b,o,none⟩) (qff h2)).trans h2,(hb.cell (p:=⟨b,o + 1,none⟩) (qff h3)).trans h3,Chain.below hb h4,h5.below hb⟩
def ErrV (w:World) (ops:List ByteArray) (c:Int) (v:Value):Prop:=(c=0∧ops=[]∧v=.nilIface)∨(c≠0∧Chain w ops c v)
theorem ErrV.below {w w':World} (hb:Below w.heap.size w w') {ops:List ByteArray} {c:Int} {v:Value} (h:ErrV w ops c v):ErrV w' ops c v:=by
 rcases h with h | ⟨h1,h2⟩
 ·exact Or.inl h
 ·exact Or.inr ⟨h1,h2.below hb⟩
theorem rl_set (v x:Value):ReflectliteValue.set #[v,x]=(do
 let (some (dst,a,fl),some (src,b,_)):=(← ReflectliteValue.parts v,←ReflectliteValue.parts x)
  | unsupported (.noEntry "extern/(internal/reflectlite.Value).Set.zeroValue")
 if fl / ReflectliteValue.flagAddr % 2 == 0 then unsupported (.noEntry "extern/(internal/reflectlite.Value).Set.unaddressable")
 let val←loadVar src b
 if←Rtype.directlyAssignable dst src then storeVar dst a val
 else if←Rtype.implements dst src then
  if (← Rtype.kind src) == 20 then
   match val with
   | .nilIface => unsupported (.noEntry "extern/reflectlite: a nil value of one interface type handed on as a value of another")
   | _=>storeVar dst a val
  else storeVar dst a (.iface src val)
 else panicString ("reflectlite.Set: value of type " ++ (← Rtype.spelt src) ++ " is not assignable to type " ++ (← Rtype.spelt dst))
 pure (.tuple #[])):=rfl
theorem partsFa (a:Addr) (w:World):(ReflectliteValue.parts (.agg #[.pointer (some ⟨0,232,none⟩),.pointer (some a),.int .u64 406])).run Tryz.prog w=.ok (some (232,a,406)) w:=by kernel_rfl
theorem partsF (a:Addr) (w:World):(ReflectliteValue.parts (.agg #[.pointer (some ⟨0,232,none⟩),.pointer (some a),.int .u64 150])).run Tryz.prog w=.ok (some (232,a,150)) w:=by kernel_rfl
theorem directF (w:World):(Rtype.directlyAssignable 232 232).run Tryz.prog w=.ok true w:=by kernel_rfl
theorem setF (ta b e:Addr) (old:Value) (W:World) (hb:W.cell? b=some (.pointer (some e))) (ht:W.cell? ta=some old) (hf:W.frozen? ta=false) :
 (ReflectliteValue.set #[.agg #[.pointer (some ⟨0,232,none⟩),.pointer (some ta),.int .u64 406],.agg #[.pointer (some ⟨0,232,none⟩),.pointer (some b),.int .u64 150]]).run Tryz.prog W
   = .ok (.tuple #[]) (W.setCell ta (.pointer (some e))):=by
 rw [rl_set]
 simp only [Sem.run_bind,partsFa,partsF,Result.andThen]
 simp [ReflectliteValue.flagAddr,loadVar,isAgg,underlying,Tryz.underlying232,hb,Result.andThen,directF,storeVar,Value.cells,storeCells,Addr.add]
 rw [run_store Tryz.prog W ta _ _ (by rfl)]
 simp [ht,hf]
end Go.Proofs.YtlkmagmdhopcjaaGreat
namespace Go.Proofs.YtlkmagmdhopcjaaGreat
open Go.RowKit Go.Extern.Stop Go.Stop Go.Extern
end Go.Proofs.YtlkmagmdhopcjaaGreat
namespace Go.Proofs.YtlkmagmdhopcjaaGreat
open Go.RowKit Go.Extern.Stop Go.Stop Go.Extern
theorem qlo (op:ByteArray) (c:Int) (w:World) (hc:c≠0) :
 Calls Tryz.prog 139 #[.string op,.int .i64 c] w fun e w'=>∃ v,e=.returned v∧Chain w' [op] c v∧Below w.heap.size w w':=by
 have hc0:(c == 0)=false:=by simpa using hc
 have k0:(w.alloc (.cells #[.string op,.iface 48 (.int .i64 c)] 234)).cell? ⟨w.heap.size,0,none⟩=some (.string op):=by simp
 have k1:(w.alloc (.cells #[.string op,.iface 48 (.int .i64 c)] 234)).cell? ⟨w.heap.size,0 + 1,none⟩=some (.iface 48 (.int .i64 c)):=by simp
 have KF:Hid (Flt (w.alloc (.cells #[.string op,.iface 48 (.int .i64 c)] 234)) w.heap.size):=⟨_,_,by show (w.heap.push _)[w.heap.size]?=_;simp;exact ⟨rfl,rfl⟩⟩
 have K0:=hI k0
 have K1:=hI k1
 clear hc k0 k1
 go_enter Tryz.func139,Tryz.ntmps139
 go_wp2
 go_ret
 exact ⟨_,rfl,⟨_,0,_,rfl,K0.out,K1.out,rfl,KF.out⟩,bel1 w _⟩
end Go.Proofs.YtlkmagmdhopcjaaGreat
