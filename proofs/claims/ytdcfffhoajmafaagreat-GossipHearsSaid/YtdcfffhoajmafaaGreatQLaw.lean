/- Texts that the law leans on. -/
import Derived.ProofKit
import Derived.OpenShut
import Derived.SizedLaws
import Derived.Test.YtdcfffhoajmafaaGreatRows
namespace Go.Proofs.YtdcfffhoajmafaaGreat
open Go.ChangeShapes Go.WideShapes Go.ChangeAt Go.RowKit Go.Proofs.Tryz
theorem own:ownKnob prog.godebug=none:=by kernel_rfl
theorem laidOut:laidOutB prog=true:=by kernel_rfl
section
variable {H:Type} {enc:TypeId×Value->H} {P:Program}
theorem qju (j:laidOutB P=true) {W W':World} (i:Below W.heap.size W W'):∀ (a:List TypeId) (e:List Value) (c:List (DataW H)) (g:List MemPlace),(∀ t ∈ a,P.readableRec t=true/\t < P.types.size) ->
 DataW.TrodAll enc P W 0 (fun _=>true) true a e c g->(∀ x ∈ g,x.block < W.heap.size)->DataW.TrodAll enc P W' 0 (fun b=>decide (b < W.heap.size)) true a e c g
 | [],_,_,_,_,h,_=>by
   obtain ⟨rfl,rfl,rfl⟩:=trodAll_nil h;exact trodAll_mk0
 | t :: a,_,_,_,hr,h,hlt=>by
   obtain ⟨v,e,d,c,p,q,rfl,rfl,rfl,k,l⟩:=trodAll_cons h;exact trodAll_cons_mk (Below.trod j (hr t (by simp)).1 (hr t (by simp)).2 k i (fun x f=>hlt x (by simp [f]))) (qju j i a e c q (fun n m=>hr n (by simp [m])) l (fun x f=>hlt x (by simp [f])))
theorem law_post {f:Func} {s:ChangeSpec} {tb:TypeId} {W W':World} {args:Array Value} {b:List (DataW H)} {a:List MemPlace} (v:laidOutB P=true) (y:∀ t ∈ f.params.toList,P.readableRec t=true/\t < P.types.size)
 (m:s.vars=[]) (e:DataW.Whole enc P f.params.toList s.vars false W args.toList b [] a)
 (n:(s.fn H (b ++ [])).results=[.lit (.bool true)]) (o:(s.fn H (b ++ [])).args=b) (r:(s.fn H (b ++ [])).vars=[]) (d:f.resultTypes=#[tb]) (j:P.underlying tb=some .bool) (l:Below W.heap.size W W') :
 s.post enc P f false true false false W args (.bool true) W':=by
 have i:∀ x ∈ a,x.block < W.heap.size:=fun x c=>e.lt x c
 have g:=e;obtain ⟨p,q,u,k,rfl,_,_⟩:=e;rw [m] at k;obtain ⟨_,rfl⟩:=trodVars_none k;refine ⟨b,[],_,[],p,[],g,?_,?_,?_,?_,fun h=>by cases h⟩
 .rw [n,d];exact trodAll_cons_mk (shut_bool j _) trodAll_mk0
 .rw [o];exact qju v l _ _ _ _ y u (fun x c=>i x (by simp [c]))
 .rw [r,m];rfl
 exact World.keptBut_mono (fun x c=>⟨c,Or.inr (Or.inl (by simpa using c))⟩) (l.frame (· ∈ p ++ []))
end
