/- Texts that the law leans on. -/
import Derived.RangeFuncNested
import Derived.RangeFuncCalls
import Derived.OrdersIn
import Derived.StillTail
import Derived.Test.YtlkmagmdhopcjaaGreatMBase
namespace Go.Proofs.YtlkmagmdhopcjaaGreat
open Go.RowKit
def qgu:Op→Bool
 | .defer _=>false
 | _=>true
theorem qty {o:Oper} (h:qgu o.op=true):∀ c,o.op≠.defer c:=fun c e=>by rw [e] at h;cases h
theorem qyl {P:Program} {o:Oper} {a:Act} {w:World} {K:Act→World→Prop} {Q:Exit→Act→World→Prop} {l n:Nat} (hd:qgu o.op=true) (h:o.wp P a w K Q):o.wpIn (Fence.wide.inRound l) n P a w K Q:=by
 refine ⟨fun _ _=>trivial,?_⟩
 rw [show (Fence.wide.inRound l).round=some l from rfl,Oper.semAt_some l _ _ (qty hd)]
 unfold Oper.wp at h
 generalize (execOp a.eval o).run P w=r at *
 cases r with
 | ok x w' =>
   cases x with
   | value v=>exact h
   | skip=>exact h
   | defer d=>exact h
   | enter f args=>exact ⟨(fun e=>by cases e),CallsIn.inRound l (callsIn_wide.2 h)⟩
   | row row args=>exact ⟨(fun e=>by cases e),fun c cs _=>let ⟨v,w',r,s⟩:=h c cs;⟨v,w',r,stepsIn_wide.2 s⟩⟩
   | _=>exact h.elim
 | halt x w'=>cases x <;> exact h
theorem qea {P:Program} {md:Region.Mode} {ops:Array Oper} {Q:Exit→Act→World→Prop} {l n:Nat} (hd:∀ o ∈ ops,qgu o.op=true) (hQ:¬ LetsOut Q) :
 ∀ (fuel:Nat) (listed:Array Bool) (a:Act) (w:World),wpAny P md ops Q fuel listed a w→wpAnyIn (Fence.wide.inRound l) n P md ops Q fuel listed a w
 | 0,_,_,_,h=>h
 | fuel + 1,listed,a,w,h=>by
   refine ⟨h.1,fun i hi=>?_⟩
   have h2:=h.2 i hi
   unfold wpOp at h2
   unfold wpOpIn
   cases ho:ops[i]? with
   | none =>
     simp only [ho] at h2 ⊢
     exact qea hd hQ fuel _ a w h2
   | some o =>
     simp only [ho] at h2 ⊢
     split
     ·rename_i hw
      rw [if_pos hw] at h2
      rcases h2 with h2 | ⟨_,h2⟩
      ·exact Oper.wpIn_mono (fun a w=>qea hd hQ fuel _ a w) (qyl (hd o (Array.mem_of_getElem? ho)) h2)
      ·exact absurd h2 hQ
     ·rename_i hw
      rw [if_neg hw] at h2
      exact ⟨fun _ _=>trivial,qea hd hQ fuel _ _ w h2⟩
theorem all_mem {l:List Oper} (h:l.all (fun o=>qgu o.op)=true):∀ o ∈ l.toArray,qgu o.op=true:=fun o ho=>List.all_eq_true.1 h o (by simpa using ho)
theorem qeu {P:Program} {id l n:Nat} {Q:Exit→Act→World→Prop} {a:Act} {w:World} {ops:List Oper} (hQ:¬ LetsOut Q) (hm:P.follows .mixedOrders=true) (hd:ops.all (fun o=>qgu o.op)=true) (hB:Region.lexB .any ops.toArray=true)
 (h:wpQuiet P ops.toArray (fun w'=>∃ n,w'=w.drewN n) (fun a'=>∀ w',(∃ n,w'=w.drewN n)→Q .normal a' w') ops a):(Code.region id ops.toArray true).wpIn (Fence.wide.inRound l) n P Q a w:=by
 simp only [Region.lexB,Bool.and_eq_true] at hB
 refine wpIn_region_any hm (qea (all_mem hd) hQ _ _ _ _ ?_)
 refine wpAny_of_quiet (C:=fun w'=>∃ n,w'=w.drewN n) (Q:=fun a'=>∀ w',(∃ n,w'=w.drewN n)→Q .normal a' w') (fun _ w' hw' h=>h w' hw') _ _ _ _ ⟨1,rfl⟩ ?_
 have:=wpAnyQ_lex (C:=fun w'=>∃ n,w'=w.drewN n) (md:=.any) hB.1 ops 0 (Array.replicate ops.toArray.size false) a (by simp) (by simpa using hB.2) h
 simpa using this
theorem qmu {P:Program} {id l n:Nat} {Q:Exit→Act→World→Prop} {a:Act} {w:World} {ops:List Oper} (m:Nat) (hQ:¬ LetsOut Q) (hm:P.follows .mixedOrders=true) (hd:ops.all (fun o=>qgu o.op)=true) (hB:Region.lexTailB .any ops.toArray m=true)
 (h:wpStill P ops.toArray w.drew (fun a'=>wpList P ops.toArray Q (ops.drop m) a' w.drew) (ops.take m) a):(Code.region id ops.toArray true).wpIn (Fence.wide.inRound l) n P Q a w:=by
 refine wpIn_region_any hm (qea (all_mem hd) hQ _ _ _ _ ?_)
 simp only [Region.lexTailB,Bool.and_eq_true,decide_eq_true_eq] at hB
 have hlen:m < ops.length:=by simpa using hB.1.1.1.2
 have e1:(ops.take m).length=m:=by simp;omega
 have e2:(ops.drop m).length=ops.toArray.size - m:=by simp
 have start:HeadInv .any ops.toArray m (Array.replicate ops.toArray.size false) :=
  ⟨by simp,fun j _ _ hl=>(by rw [getD_replicate_false] at hl;cases hl),fun t _ ht=>getD_in (by simpa using ht) (getD_replicate_false _ _)⟩
 have H:=wpAnyL_lex (md:=.any) (g:=ops.toArray.size - m) hB.1.1.1.1 hB.1.1.2 hB.1.2 hB.1.1.1.2 (ops.take m) 0 _ a (fun j hj=>by
  have hj':j < m:=by rw [e1] at hj;exact hj
  simp [hj']) (by simpa using e1) start (by rw [e1];exact hB.2) h
 have T:=wpAny_of_head (Q':=Q) (g:=ops.toArray.size - m) (fun listed a' hL=>by
  have:=wpAny_of_seq (md:=.any) (Q':=Q) (ops.drop m) m listed a' w.drew (fun j=>by simp [List.getElem?_drop]) (by rw [e2];exact hL.1) hL.2
  rwa [e2] at this) _ _ _ H
 rw [e1,show m + (ops.toArray.size - m)=ops.toArray.size by omega] at T
 exact T
end Go.Proofs.YtlkmagmdhopcjaaGreat
