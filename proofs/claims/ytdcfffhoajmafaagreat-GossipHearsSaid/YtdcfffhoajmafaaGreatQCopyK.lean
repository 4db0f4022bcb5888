/- Texts that the law leans on. -/
import Derived.Laws.CopyOwn
import Derived.Lib.AppendZerosOnto
import Derived.Lib.Overlaps
import Derived.Test.YtdcfffhoajmafaaGreatQOwnK
namespace Go.Proofs.YtdcfffhoajmafaaGreat
open Go.RowKit Go.Sort Go.Lib Go.Proofs.Tryz
def qyh (L:List Value) (off:Nat) (xs:List Value):List Value:=L.take off ++ (xs ++ L.drop (off + xs.length))
section
variable {P:Program}
theorem qyi (k:Nat) (w:World) (s F G c:TypeId) (g o e l:Nat) (a:Addr) (f q:Nat) (b:List Value) (t:TypeId) (d:List Value) (m:Nat)
 (E:P.underlying s=some (.slice c)) (x:(P.info? c).map (·.size)=some k) (A:w.heap[g]?=some (.cells b.toArray t (0,0))) (C:m=Nat.min f e) (D:d.length=m * k)
 (p:∀ j v,d[j]?=some v->w.cell? (a.add j)=some v) (n:o + d.length<=b.length) (z:∀ v ∈ d,v.oneCell'=true) :
 (Builtin.copy_ #[s,F] G #[.slice (some ⟨g,o,none⟩) e l,.slice (some a) f q]).run P w=.ok (goInt m) (w.setRow g (qyh b o d).toArray):=by
 have u:=run_loadCells_list (P:=P) w a d p;have h:=run_storeCells_at P g o t d 0 b.toArray w A (by simpa using n) z;cases r:P.info? c with
 | none=>simp [r] at x
 | some i =>
   have B:i.size=k:=by simpa [r] using x
   simp only [vak] at h;rw [D] at u;have y:(b.toArray.toList.take o ++ d ++ b.toArray.toList.drop (o + d.length)).toArray=(qyh b o d).toArray:=by unfold qyh;simp
   rw [y] at h;simp [Builtin.copy_,run_underlying E,Builtin.lenOf,Builtin.firstCells,sizeOf,typeInfo,r,B,<-C,u,h]
theorem qnz {B g:Nat} {a w:World} (c:Below B a w) (b:B<=g) (cs:Array Value):Below B a (w.setRow g cs) :=
 c.trans ⟨rfl,rfl,rfl,by simp [World.setRow],fun k d=>vbg w g k cs jo⟩
theorem qyj {ops:Array Oper} {o:Oper} {a:Act} {w:World} {K:Act->World->Prop} {Q:Exit->Act->World->Prop} {E:Prop} (hgd:o.guard=none) (d s:Operand) (dT sT:TypeId)
 (ho:o.op=.call { callee:=.builtin .copy,args:=#[d,s],argTypes:=#[dT,sT] }) (k:Nat) (elem:TypeId) (hu:P.underlying dT=some (.slice elem)) (hsz:(P.info? elem).map (·.size)=some k)
 (g off dLen dCap:Nat) (ad:Addr) (sLen sCap:Nat) (hd:a.eval d=.slice (some ⟨g,off,none⟩) dLen dCap) (hs:a.eval s=.slice (some ad) sLen sCap)
 (cur:List Value) (t:TypeId) (hg:w.heap[g]?=some (.cells cur.toArray t (0,0))) (xs:List Value) (m:Nat) (hm:m=Nat.min sLen dLen) (hn:xs.length=m * k)
 (hsrc:∀ j v,xs[j]?=some v->w.cell? (ad.add j)=some v) (hfit:off + xs.length<=cur.length) (h1:∀ v ∈ xs,v.oneCell'=true) (B:Nat) (w0:World) (hb:Below B w0 w) (hBg:B<=g)
 (h:∀ c,Hid (c.heap[g]?=some (.cells (qyh cur off xs).toArray t (0,0)))->Hid (Below B w0 c)->Hid (∀ j,j≠g->c.heap[j]?=w.heap[j]?)->K (a.put o.dst (goInt m)) c) :
 if Region.wanted o (yielded ops a.tmps)=true then Oper.wp P o a w K Q else E:=by
 have f:Region.wanted o (yielded ops a.tmps)=true:=by simp [Region.wanted,hgd]
 rw [vam f];have b:=qyi (P:=P) k w dT sT o.type elem g off dLen dCap ad sLen sCap cur t xs m hu hsz hg hm hn hsrc hfit h1;unfold Oper.wp;simp [execOp,ho,resolve,invoke,builtin,hd,hs,b,Result.andThen];exact h _ (show _=_ from vbz w g _ _ t _ hg) (qnz hb hBg _) (fun j e=>vbg w g j _ e)
end
