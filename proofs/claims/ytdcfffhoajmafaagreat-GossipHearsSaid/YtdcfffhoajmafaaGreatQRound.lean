/- Texts that the law leans on. -/
import Derived.RangeFuncNested
import Derived.OrdersIn
import Derived.Test.YtdcfffhoajmafaaGreatQBase
namespace Go.Proofs.YtdcfffhoajmafaaGreat
open Go.RowKit Go.Proofs.Tryz
def qhk:Op->Bool
 | .defer _=>false
 | _=>true
theorem qvf {o:Oper} (h:qhk o.op=true):∀ c,o.op≠.defer c:=fun c e=>by rw [e] at h;cases h
theorem zaq {P:Program} {o:Oper} {a:Act} {w:World} {K:Act->World->Prop} {Q:Exit->Act->World->Prop} {l n:Nat} (g:qhk o.op=true) (h:o.wp P a w K Q):o.wpIn (Fence.wide.inRound l) n P a w K Q:=by
 refine ⟨fun _ _=>trivial,?_⟩;rw [show (Fence.wide.inRound l).round=some l from rfl,Oper.semAt_some l _ _ (qvf g)];unfold Oper.wp at h;generalize (execOp a.eval o).run P w=r at *;cases r with
 | ok x w' =>
   cases x with
   | value v=>exact h
   | skip=>exact h
   | defer d=>exact h
   | enter f args=>exact ⟨(fun e=>by cases e),CallsIn.inRound l (callsIn_wide.2 h)⟩
   | row row args=>exact ⟨(fun e=>by cases e),fun c b _=>let ⟨v,w',r,s⟩:=h c b;⟨v,w',r,stepsIn_wide.2 s⟩⟩
   | _=>exact h.elim
 | halt x w'=>cases x <;> exact h
theorem qet {P:Program} {md:Region.Mode} {e:Array Oper} {Q:Exit->Act->World->Prop} {l n:Nat} (g:∀ o ∈ e,qhk o.op=true) (f:¬ LetsOut Q) :
 ∀ (b:Nat) (c:Array Bool) (a:Act) (w:World),wpAny P md e Q b c a w->wpAnyIn (Fence.wide.inRound l) n P md e Q b c a w
 | 0,_,_,_,h=>h
 | b + 1,c,a,w,h=>by
   refine ⟨h.1,fun i m=>?_⟩;have d:=h.2 i m;unfold wpOp at d;unfold wpOpIn;cases j:e[i]? with
   | none =>
     simp only [j] at d |-
     exact qet g f b _ a w d
   | some o =>
     simp only [j] at d |-
     split
     .rename_i k
      rw [vam k] at d;rcases d with d | ⟨_,d⟩
      .exact Oper.wpIn_mono (fun a w=>qet g f b _ a w) (zaq (g o (Array.mem_of_getElem? j)) d)
      exact absurd d f
     rename_i k;rw [vao k] at d;exact ⟨fun _ _=>trivial,qet g f b _ _ w d⟩
theorem all_mem {l:List Oper} (h:l.all (fun o=>qhk o.op)=true):∀ o ∈ l.toArray,qhk o.op=true:=fun o a=>vcx.1 h o (by simpa using a)
theorem qfg {P:Program} {id l n:Nat} {Q:Exit->Act->World->Prop} {a:Act} {w:World} {b:List Oper} (g:¬ LetsOut Q) (j:P.follows .mixedOrders=true) (i:b.all (fun o=>qhk o.op)=true) (e:Region.lexB .any b.toArray=true)
 (h:wpQuiet P b.toArray (fun c=>∃ n,c=w.drewN n) (fun d=>∀ c,(∃ n,c=w.drewN n)->Q .normal d c) b a):(Code.region id b.toArray true).wpIn (Fence.wide.inRound l) n P Q a w:=by
 simp only [Region.lexB,vav] at e;refine wpIn_region_any j (qet (all_mem i) g _ _ _ _ ?_);refine wpAny_of_quiet (C:=fun c=>∃ n,c=w.drewN n) (Q:=fun d=>∀ c,(∃ n,c=w.drewN n)->Q .normal d c) (fun _ c f h=>h c f) _ _ _ _ ⟨1,rfl⟩ ?_
 have:=wpAnyQ_lex (C:=fun c=>∃ n,c=w.drewN n) (md:=.any) e.1 b 0 (Array.replicate b.toArray.size false) a js (by simpa using e.2) h
 simpa using this
theorem qne {P:Program} {id l n:Nat} {Q:Exit->Act->World->Prop} {a:Act} {w:World} {b:List Oper} (m:Nat) (v:¬ LetsOut Q) (y:P.follows .mixedOrders=true) (x:b.all (fun o=>qhk o.op)=true) (d:Region.lexTailB .any b.toArray m=true)
 (h:wpStill P b.toArray w.drew (fun i=>wpList P b.toArray Q (b.drop m) i w.drew) (b.take m) a):(Code.region id b.toArray true).wpIn (Fence.wide.inRound l) n P Q a w:=by
 refine wpIn_region_any y (qet (all_mem x) v _ _ _ _ ?_);simp only [Region.lexTailB,vav,vap] at d;have u:m < b.length:=by simpa using d.1.1.1.2
 have f:(b.take m).length=m:=by simp;omega
 have p:(b.drop m).length=b.toArray.size - m:=by simp
 have e:HeadInv .any b.toArray m (Array.replicate b.toArray.size false) :=
  ⟨by simp,fun j _ _ s=>(by rw [getD_replicate_false] at s;cases s),fun t _ z=>getD_in (by simpa using z) (getD_replicate_false _ _)⟩
 have H:=wpAnyL_lex (md:=.any) (g:=b.toArray.size - m) d.1.1.1.1 d.1.1.2 d.1.2 d.1.1.1.2 (b.take m) 0 _ a (fun j r=>by
  have k:j < m:=by rw [f] at r;exact r
  simp [k]) (by simpa using f) e (by rw [f];exact d.2) h
 have T:=wpAny_of_head (Q':=Q) (g:=b.toArray.size - m) (fun c i q=>by
  have:=wpAny_of_seq (md:=.any) (Q':=Q) (b.drop m) m c i w.drew (fun j=>by simp [List.getElem?_drop]) (by rw [p];exact q.1) q.2
  rwa [p] at this) _ _ _ H
 rw [f,show m + (b.toArray.size - m)=b.toArray.size by omega] at T;exact T
