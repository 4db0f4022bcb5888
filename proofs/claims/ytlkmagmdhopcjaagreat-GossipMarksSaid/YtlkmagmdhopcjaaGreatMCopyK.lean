/- Texts that the law leans on. -/
import Derived.Laws.CopyRow
import Derived.Laws.CopyOwn
import Derived.Lib.AppendZerosOnto
import Derived.Lib.AppendZeros
import Derived.Lib.Overlaps
import Derived.Laws.Externs
import Derived.Deep.RegionLaw
import Derived.Test.YtlkmagmdhopcjaaGreatMOwnK
namespace Go.Proofs.YtlkmagmdhopcjaaGreat
open Go.RowKit Go.Sort Go.Lib
def qhb (L:List Value) (off:Nat) (xs:List Value):List Value:=L.take off ++ (xs ++ L.drop (off + xs.length))
theorem qjd {L:List Value} {off:Nat} {xs:List Value} (h:off + xs.length≤L.length):(qhb L off xs).length=L.length:=by
 unfold qhb;simp;omega
section
variable {P:Program}
theorem qnx (k:Nat) (w:World) (dT sT ty elem:TypeId) (g o dLen dCap:Nat) (a:Addr) (sLen sCap:Nat) (cur:List Value) (t:TypeId) (xs:List Value) (m:Nat)
 (hu:P.underlying dT=some (.slice elem)) (hs:(P.info? elem).map (·.size)=some k) (hg:w.heap[g]?=some (.cells cur.toArray t (0,0))) (hm:m=Nat.min sLen dLen) (hn:xs.length=m * k)
 (hsrc:∀ j v,xs[j]?=some v→w.cell? (a.add j)=some v) (hfit:o + xs.length≤cur.length) (h1:∀ v ∈ xs,v.oneCell'=true) :
 (Builtin.copy_ #[dT,sT] ty #[.slice (some ⟨g,o,none⟩) dLen dCap,.slice (some a) sLen sCap]).run P w=.ok (goInt m) (w.setRow g (qhb cur o xs).toArray):=by
 have hl:=run_loadCells_list (P:=P) w a xs hsrc
 have hst:=run_storeCells_at P g o t xs 0 cur.toArray w hg (by simpa using hfit) h1
 cases hq:P.info? elem with
 | none=>simp [hq] at hs
 | some i =>
   have hi:i.size=k:=by simpa [hq] using hs
   simp only [Nat.add_zero] at hst
   rw [hn] at hl
   have e1:(cur.toArray.toList.take o ++ xs ++ cur.toArray.toList.drop (o + xs.length)).toArray=(qhb cur o xs).toArray:=by unfold qhb;simp
   rw [e1] at hst
   simp [Builtin.copy_,run_underlying hu,Builtin.lenOf,Builtin.firstCells,sizeOf,typeInfo,hq,hi,←hm,hl,hst]
theorem qie {B g:Nat} {w0 w:World} (hb:Below B w0 w) (hBg:B≤g) (cs:Array Value):Below B w0 (w.setRow g cs) :=
 hb.trans ⟨rfl,rfl,rfl,by simp [World.setRow],fun k hk=>setRow_other w g k cs (by omega)⟩
theorem qko {w:World} {ops:Array Oper} {rest:List Oper} {o:Oper} {a:Act} {Q:Exit→Act→World→Prop} (hgd:o.guard=none) (d s:Operand) (dT sT:TypeId)
 (ho:o.op=.call { callee:=.builtin .copy,args:=#[d,s],argTypes:=#[dT,sT] }) (k:Nat) (elem:TypeId) (hu:P.underlying dT=some (.slice elem)) (hsz:(P.info? elem).map (·.size)=some k)
 (g off dLen dCap:Nat) (ad:Addr) (sLen sCap:Nat) (hd:a.eval d=.slice (some ⟨g,off,none⟩) dLen dCap) (hs:a.eval s=.slice (some ad) sLen sCap)
 (cur:List Value) (t:TypeId) (hg:w.heap[g]?=some (.cells cur.toArray t (0,0))) (xs:List Value) (m:Nat) (hm:m=Nat.min sLen dLen) (hn:xs.length=m * k)
 (hsrc:∀ j v,xs[j]?=some v→w.cell? (ad.add j)=some v) (hfit:off + xs.length≤cur.length) (h1:∀ v ∈ xs,v.oneCell'=true) (B:Nat) (w0:World) (hb:Below B w0 w) (hBg:B≤g)
 (h:∀ w',Hid (w'.heap[g]?=some (.cells (qhb cur off xs).toArray t (0,0)))→Hid (Below B w0 w')→Hid (∀ j,j≠g→w'.heap[j]?=w.heap[j]?)→wpList P ops Q rest (a.put o.dst (goInt m)) w'):wpList P ops Q (o :: rest) a w:=by
 refine wpList_plain hgd fun K hK=>?_
 have hrun:=qnx (P:=P) k w dT sT o.type elem g off dLen dCap ad sLen sCap cur t xs m hu hsz hg hm hn hsrc hfit h1
 unfold Oper.wp
 simp [execOp,ho,resolve,invoke,builtin,hd,hs,hrun,Result.andThen]
 exact hK _ _ (h _ (show _=_ from setRow_heap w g _ _ t _ hg) (qie hb hBg _) (fun j hj=>setRow_other w g j _ hj))
theorem qjw {ops:Array Oper} {o:Oper} {a:Act} {w:World} {K:Act→World→Prop} {Q:Exit→Act→World→Prop} {E:Prop} (hgd:o.guard=none) (d s:Operand) (dT sT:TypeId)
 (ho:o.op=.call { callee:=.builtin .copy,args:=#[d,s],argTypes:=#[dT,sT] }) (k:Nat) (elem:TypeId) (hu:P.underlying dT=some (.slice elem)) (hsz:(P.info? elem).map (·.size)=some k)
 (g off dLen dCap:Nat) (ad:Addr) (sLen sCap:Nat) (hd:a.eval d=.slice (some ⟨g,off,none⟩) dLen dCap) (hs:a.eval s=.slice (some ad) sLen sCap)
 (cur:List Value) (t:TypeId) (hg:w.heap[g]?=some (.cells cur.toArray t (0,0))) (xs:List Value) (m:Nat) (hm:m=Nat.min sLen dLen) (hn:xs.length=m * k)
 (hsrc:∀ j v,xs[j]?=some v→w.cell? (ad.add j)=some v) (hfit:off + xs.length≤cur.length) (h1:∀ v ∈ xs,v.oneCell'=true) (B:Nat) (w0:World) (hb:Below B w0 w) (hBg:B≤g)
 (h:∀ w',Hid (w'.heap[g]?=some (.cells (qhb cur off xs).toArray t (0,0)))→Hid (Below B w0 w')→Hid (∀ j,j≠g→w'.heap[j]?=w.heap[j]?)→K (a.put o.dst (goInt m)) w') :
 if Region.wanted o (yielded ops a.tmps)=true then Oper.wp P o a w K Q else E:=by
 have hw:Region.wanted o (yielded ops a.tmps)=true:=by simp [Region.wanted,hgd]
 rw [if_pos hw]
 have hrun:=qnx (P:=P) k w dT sT o.type elem g off dLen dCap ad sLen sCap cur t xs m hu hsz hg hm hn hsrc hfit h1
 unfold Oper.wp
 simp [execOp,ho,resolve,invoke,builtin,hd,hs,hrun,Result.andThen]
 exact h _ (show _=_ from setRow_heap w g _ _ t _ hg) (qie hb hBg _) (fun j hj=>setRow_other w g j _ hj)
theorem qox (w:World) {ops:Array Oper} {rest:List Oper} {o:Oper} {a:Act} {Q:Exit→Act→World→Prop} (hgd:o.guard=none) (s x:Operand) (t tn:TypeId)
 (ho:o.op=.call { callee:=.builtin .append,args:=#[s,x],argTypes:=#[t,tn] }) (vs vx:Value) (hs:a.eval s=vs) (hx:a.eval x=vx)
 (v':Value) (w1:World) (hr:(Builtin.append_ #[t,tn] o.type #[vs,vx]).run P w=.ok v' w1) (h:∀ w',w'=w1→wpList P ops Q rest (a.put o.dst v') w'):wpList P ops Q (o :: rest) a w :=
 Lib.wpList_append_run w hgd s x t tn ho vs vx hs hx v' w1 hr (h w1 rfl)
end
theorem lay_shift {L E X:List Value} {a b c:Nat} (hE:E.length=b) (hX:X.length=c) (hL:a + b + c≤L.length):qhb (qhb L (a + b) X) a E=L.take a ++ (E ++ (X ++ L.drop (a + b + c))):=by
 unfold qhb
 have h1:(L.take (a + b)).length=a + b:=by rw [List.length_take];omega
 have e1:(L.take (a + b) ++ (X ++ L.drop (a + b + X.length))).take a=L.take a:=by
  rw [List.take_append_of_le_length (by rw [h1];omega),List.take_take];congr 1;omega
 have e2:(L.take (a + b) ++ (X ++ L.drop (a + b + X.length))).drop (a + E.length)=X ++ L.drop (a + b + X.length):=by
  rw [hE,List.drop_append_of_le_length (by rw [h1];omega),List.drop_of_length_le (by rw [h1];omega),List.nil_append]
 rw [e1,e2,hX]
theorem lay_two {L E X:List Value} {a b c:Nat} (hE:E.length=b) (hX:X.length=c) (hL:a + b + c≤L.length):qhb (qhb L a E) (a + b) X=L.take a ++ (E ++ (X ++ L.drop (a + b + c))):=by
 unfold qhb
 have h1:(L.take a).length=a:=by rw [List.length_take];omega
 have e1:(L.take a ++ (E ++ L.drop (a + E.length))).take (a + b)=L.take a ++ E:=by
  rw [←List.append_assoc,List.take_append_of_le_length (by rw [List.length_append,h1,hE];omega),List.take_of_length_le (by rw [List.length_append,h1,hE];omega)]
 have e2:(L.take a ++ (E ++ L.drop (a + E.length))).drop (a + b + X.length)=L.drop (a + b + c):=by
  rw [←List.append_assoc,List.drop_append,List.drop_of_length_le (by rw [List.length_append,h1,hE];omega),List.nil_append,List.drop_drop,List.length_append,h1,hE,hX]
  congr 1;omega
 rw [e1,e2,List.append_assoc]
end Go.Proofs.YtlkmagmdhopcjaaGreat
