/- Texts that the law leans on. -/
import Derived.Laws.StructEq
import Derived.Lib.Strings
import Derived.Test.YtjkecckndfcbjaaGreatDoorPErrA
import Derived.Test.YtjkecckndfcbjaaGreatDoorPOwnK
namespace Go.Proofs.YtjkecckndfcbjaaGreatDoor
open Go.RowKit Go.Extern.Stop Go.Stop Go.Extern Go.Sort
section
variable {P:Program} (w:World)
theorem qsg (d:Nat) {ti tn:TypeId} {ms:Array (String×TypeId)} {i:TypeInfo} {k:IntKind} (a b:Int)
 (hi:P.underlying ti=some (.interface ms)) (hn:P.underlying tn=some (.int k)) (hinfo:P.info? tn=some i) (hcomp:i.comparable=true) :
 (Op.equalIn (d + 2) ti (.iface tn (.int k a)) (.iface tn (.int k b))).run P w=.ok (a == b) w:=by
 simp [Op.equalIn,run_underlying hi,run_underlying hn,typeInfo,hinfo,hcomp]
theorem eql_two {ti tn:TypeId} {ms:Array (String×TypeId)} {i:TypeInfo} {k:IntKind} (a b:Int)
 (hi:P.underlying ti=some (.interface ms)) (hn:P.underlying tn=some (.int k)) (hinfo:P.info? tn=some i) (hcomp:i.comparable=true) :
 (binOp .eql ti (.iface tn (.int k a)) (.iface tn (.int k b))).run P w=.ok (.bool (a == b)) w:=by
 simp only [binOp]
 simp [Op.equal,Op.maxDepth,qsg w 9998 a b hi hn hinfo hcomp]
end
theorem compE:(Tryz.prog.info? 51).map (·.comparable)=some true:=by kernel_rfl
theorem eql_errno (a b:Int) (w:World):(binOp .eql 27 (.iface 51 (.int .i64 a)) (.iface 51 (.int .i64 b))).run Tryz.prog w=.ok (.bool (a == b)) w:=by
 obtain ⟨i,hi,hc⟩:=Option.map_eq_some_iff.1 compE
 exact eql_two w a b Tryz.underlying27 Tryz.underlying51 hi hc
theorem eql_fault (p:Value) (b:Int) (w:World):(binOp .eql 27 (.iface 132 p) (.iface 51 (.int .i64 b))).run Tryz.prog w=.ok (.bool false) w :=
 run_eql_iface_types (P:=Tryz.prog) 132 51 p (.int .i64 b) Tryz.underlying27 (by decide) w
def cmpM : Array Value → Sem Value := Extern.ReflectliteType.method fun t => do Extern.Rtype.noPackHeld "Comparable" t; pure (.bool (← typeInfo t).comparable)
theorem qsh (w:World):(cmpM #[.agg #[.pointer (some ⟨1,51,none⟩)]]).run Tryz.prog w=.ok (.bool true) w:=by kernel_rfl
theorem qlo (args:Array Value) (w:World):(callFunc 219 args).run Tryz.prog w=((cmpM args).run Tryz.prog w).andThen fun v w'=>.ok (.value v) w' :=
 @run_callFunc_extern Tryz.prog 219 _ cmpM Tryz.func219 (by kernel_rfl) (by kernel_rfl) (by kernel_rfl) (by kernel_rfl) args w
set_option maxHeartbeats 1000000 in
theorem is_any_D (ops:List ByteArray) (c d:Int) (v:Value) (w:World) (h:Chain w ops c v) :
 Calls Tryz.prog 129 #[v,.iface 51 (.int .i64 d),.bool true] w fun ev w'=>ev=.returned (.bool (c == d))∧w=w':=by
 have f1:=eql_errno
 have f2:=eql_fault
 have f3:=noIsE
 have f4:=noIsF
 have f7:=noUnwrapE
 have f8:=qmh
 have f9:=qjd
 have f10:=qwu
 have HC:=hI h
 clear h
 go_enter Tryz.func129,Tryz.ntmps129
 go_wp2
 go_loopg [0] ops.length (fun k v wr=>wr=w∧∃ l:List ByteArray,l.length=k∧Chain w l c v)
 case atStart=>exact ⟨rfl,ops,rfl,HC.out⟩
 case round =>
  obtain ⟨rfl,l,hl,hch⟩:=hrel
  cases l with
  | nil =>
    obtain rfl:_=_:=hch
    clear hl
    cases hcd:(c == d)
    ·go_wp2
     go_ret
     exact ⟨qah hcd.symm,rfl⟩
    ·go_wp2
     go_ret
     exact ⟨qah hcd.symm,rfl⟩
  | cons op l =>
    obtain ⟨b,o,u,rfl,hc0,hc1,hu,_⟩:=hch
    have HU:=hI (qmi b o u wr hc1)
    have HL:=hI hl
    have HV:=hI hu
    clear hc0 hc1 hl
    cases l with
    | nil =>
      obtain rfl:u=_:=hu
      go_wp2_with (go_at_call 213;refine HU.out.mono ?_;rintro e w' ⟨rfl,rfl⟩)
      go_roundg 0
      case rel=>exact ⟨rfl,[],rfl,rfl⟩
      case measure=>have:=HL.out;simp at this;omega
    | cons op' l =>
      obtain ⟨b',o',u',rfl,_⟩:=hu
      go_wp2_with (go_at_call 213;refine HU.out.mono ?_;rintro e w' ⟨rfl,rfl⟩)
      go_roundg (l.length + 1)
      case rel=>exact ⟨rfl,op' :: l,rfl,HV.out⟩
      case measure=>have:=HL.out;simp at this;omega
theorem qug (ops:List ByteArray) (c d:Int) (v:Value) (w:World) (h:ErrV w ops c v) (hd:d≠0) :
 Calls Tryz.prog 92 #[v,.iface 51 (.int .i64 d)] w fun ev w'=>ev=.returned (.bool (c == d))∧w=w':=by
 have h1:=qis
 have h2:=qlo
 have f1:=typeOfE
 have f2:=qjj
 have f3:=qsh
 rcases h with ⟨rfl,_,rfl⟩ | ⟨hc,h⟩
 ·have f4:=run_eql_iface_nil_left (P:=Tryz.prog) w 51 (.int .i64 d) Tryz.underlying27
  have e0:((0:Int) == d)=false:=by simp;omega
  rw [e0]
  clear hd e0
  go_enter Tryz.func92,Tryz.ntmps92
  go_wp2
  go_ret
  exact ⟨rfl,rfl⟩
 ·have HA:=hI (is_any_D ops c d v w h)
  clear hd hc
  cases ops with
  | nil =>
    obtain rfl:_=_:=h
    go_enter Tryz.func92,Tryz.ntmps92
    go_wp2_with (go_at_call 129;refine HA.out.mono ?_;rintro e w' ⟨rfl,rfl⟩)
    go_ret
    exact ⟨rfl,rfl⟩
  | cons op ops =>
    obtain ⟨b,o,u,rfl,_⟩:=h
    go_enter Tryz.func92,Tryz.ntmps92
    go_wp2_with (go_at_call 129;refine HA.out.mono ?_;rintro e w' ⟨rfl,rfl⟩)
    go_ret
    exact ⟨rfl,rfl⟩
end Go.Proofs.YtjkecckndfcbjaaGreatDoor
namespace Go.Proofs.YtjkecckndfcbjaaGreatDoor
open Go.RowKit Go.Sort Go.Lib
def OutV (w:World) (l:List ByteArray) (c:Int) (v:Value):Prop:=match l with
 | []=>v=.pointer none
 | op :: l=>∃ b o u,v=.pointer (some ⟨b,o,none⟩)∧w.cell? ⟨b,o,none⟩=some (.string op)∧w.cell? ⟨b,o + 1,none⟩=some u∧Chain w l c u
theorem OutV.below {w w':World} (hb:Below w.heap.size w w') {l:List ByteArray} {c:Int} {v:Value} (h:OutV w l c v):OutV w' l c v:=by
 cases l with
 | nil=>exact h
 | cons op l =>
   obtain ⟨b,o,u,h1,h2,h3,h4⟩:=h
   exact ⟨b,o,u,h1,(hb.cell (p:=⟨b,o,none⟩) (qan h2)).trans h2,(hb.cell (p:=⟨b,o + 1,none⟩) (qan h3)).trans h3,h4.below hb⟩
end Go.Proofs.YtjkecckndfcbjaaGreatDoor
