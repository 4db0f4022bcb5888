/- Texts that the law leans on. -/
import Derived.OrdersHeld
import Derived.Deep.RegionHeld
import Derived.Test.YtlkmagmdhopcjaaGreatMBase
namespace Go.Proofs.YtlkmagmdhopcjaaGreat
open Go
section
variable {P:Program} {ops:Array Oper} {Q:Exit→Act→World→Prop} {md:Region.Mode} {S:World→Prop}
def qou (md:Region.Mode) (ops:Array Oper) (j:Nat):Bool:=match ops[j]? with
 | none=>false
 | some o=>(List.range ops.size).all fun k=>k == j || o.after.any fun e=>Region.binds md e && e.on == k
theorem qwq {j k:Nat} {o:Oper} (hj:ops[j]?=some o) (h:qou md ops j=true) (hk:k < ops.size) (hne:k≠j):∃ e ∈ o.after,Region.binds md e=true∧e.on=k:=by
 unfold qou at h
 rw [hj] at h
 have:=List.all_eq_true.1 h k (List.mem_range.2 hk)
 simp only [Bool.or_eq_true,beq_iff_eq,Array.any_eq_true'] at this
 rcases this with h1 | ⟨e,he,hb⟩
 ·exact absurd h1 hne
 ·simp only [Bool.and_eq_true,beq_iff_eq] at hb
  exact ⟨e,he,hb.1,hb.2⟩
def qcs (P:Program) (md:Region.Mode) (ops:Array Oper) (Q:Exit→Act→World→Prop) (S:World→Prop):Nat→Array Bool→Act→World→Prop
 | 0,listed,a,w=>Region.ready md ops listed=[]∧Q .normal a w
 | fuel + 1,listed,a,w =>
   (Region.ready md ops listed=[]→Q .normal a w) ∧
   ∀ i ∈ Region.ready md ops listed,wpOp P ops Q i (fun a' w'=>(qou md ops i=false→S w')∧qcs P md ops Q S fuel (listed.setIfInBounds i true) a' w') a w
theorem qnu:∀ (fuel:Nat) (listed:Array Bool) (a:Act) (w:World),qcs P md ops Q S fuel listed a w→wpAny P md ops Q fuel listed a w
 | 0,_,_,_,h=>h
 | fuel + 1,_,_,_,h=>⟨h.1,fun i hi=>wpOp_mono (fun a' w' h'=>qnu fuel _ a' w' h'.2) (h.2 i hi)⟩
theorem qqm {i:Nat} {oi:Oper} {v:Value} (hi:ops[i]?=some oi) (hsel:∀ (j:Nat) (o:Oper) cs b,ops[j]?=some o→o.op≠.select cs b)
 (hQ:∀ c a w,Q (.panic c) (a.put oi.dst v) w→Q (.panic c) a w) :
 ∀ (fuel:Nat) (listed:Array Bool) (a:Act) (w:World),
  (∀ j oj,ops[j]?=some oj→j≠i→listed.getD j true=false→(∀ e ∈ oj.after,Region.binds md e=true→e.on≠i)→oi.apart ops oj=true) →
  i ∈ Region.ready md ops listed→YieldsIf P ops S oi v a→S w →
  qcs P md ops Q S fuel (listed.setIfInBounds i true) (a.put oi.dst v) w→qcs P md ops Q S (fuel + 1) listed a w:=by
 intro fuel
 induction fuel with
 | zero =>
   intro listed a w _ hr hy hS H
   refine ⟨fun h=>(by rw [h] at hr;cases hr),fun j hj=>?_⟩
   by_cases hji:j=i
   ·subst hji;exact hy.wpOp hi hS ⟨fun _=>hS,H⟩
   ·have:=ready_mono hj hji
    rw [H.1] at this
    cases this
 | succ fuel ih =>
   intro listed a w hfree hr hy hS H
   refine ⟨fun h=>(by rw [h] at hr;cases hr),fun j hj=>?_⟩
   by_cases hji:j=i
   ·subst hji;exact hy.wpOp hi hS ⟨fun _=>hS,H⟩
   ·have h1:=H.2 j (ready_mono hj hji)
    obtain ⟨hjun,oj,hoj,hall⟩:=mem_ready.1 hj
    have hnot:∀ e ∈ oj.after,Region.binds md e=true→e.on≠i:=fun e he hb heq=>by
     have h1:=hall e he hb
     have h0:=(mem_ready.1 hr).1
     rw [heq] at h1
     rcases Nat.lt_or_ge i listed.size with h' | h'
     ·simp [h'] at h0 h1;rw [h0] at h1;cases h1
     ·simp [Array.getElem?_eq_none h'] at h1
    have hlast:qou md ops j=false:=by
     cases hb:qou md ops j
     ·rfl
     ·obtain ⟨e,he,hb1,hb2⟩:=qwq hoj hb (Array.getElem?_eq_some_iff.1 hi).1 (Ne.symm hji)
      exact absurd hb2 (hnot e he hb1)
    have h2:=wpOp_putIf hoj (hfree j oj hoj hji hjun hnot) (fun cs b=>hsel i oi cs b hi) (fun cs b=>hsel j oj cs b hoj) hQ hy h1
    have hfree':∀ k ok,ops[k]?=some ok→k≠i→(listed.setIfInBounds j true).getD k true=false →
     (∀ e ∈ ok.after,Region.binds md e=true→e.on≠i)→oi.apart ops ok=true:=fun k ok hk hki hun hno=>by
     refine hfree k ok hk hki ?_ hno
     by_cases hjk:j=k
     ·subst hjk;exact hjun
     ·rw [getD_set_ne true hjk] at hun;exact hun
    refine wpOp_mono (fun a' w' h3=>⟨h3.2.1,ih (listed.setIfInBounds j true) a' w' hfree' (ready_mono hr (Ne.symm hji)) h3.1 (h3.2.1 hlast) ?_⟩) h2
    rw [Array.setIfInBounds_comm _ _ hji]
    exact h3.2.2
theorem qss {i:Nat} {oi:Oper} {v:Value} {fuel:Nat} {listed:Array Bool} {a:Act} {w:World} (hi:ops[i]?=some oi)
 (hs:Region.noSelect ops=true) (hf:Region.free md ops listed i=true) (hr:(Region.ready md ops listed).contains i=true)
 (hQ:∀ c a w,Q (.panic c) (a.put oi.dst v) w→Q (.panic c) a w) (hy:YieldsIf P ops S oi v a) (hS:S w)
 (h:qcs P md ops Q S fuel (listed.setIfInBounds i true) (a.put oi.dst v) w):qcs P md ops Q S (fuel + 1) listed a w :=
 qqm hi (Region.noSelect_spec hs) hQ fuel listed a w (Region.free_spec hi hf) (by simpa using hr) hy hS h
theorem qwr {rs:List Nat} {fuel:Nat} {listed:Array Bool} {a:Act} {w:World} (hr:Region.ready md ops listed=rs) (hne:rs≠[])
 (h:∀ i ∈ rs,wpOp P ops Q i (fun a' w'=>(qou md ops i=false→S w')∧qcs P md ops Q S fuel (listed.setIfInBounds i true) a' w') a w):qcs P md ops Q S (fuel + 1) listed a w :=
 ⟨fun h0=>absurd (hr ▸ h0) hne,hr ▸ h⟩
theorem qca {listed:Array Bool} {a:Act} {w:World} (hr:Region.ready md ops listed=[]) (h:Q .normal a w) :
 ∀ fuel,qcs P md ops Q S fuel listed a w
 | 0=>⟨hr,h⟩
 | _ + 1=>⟨fun _=>h,by rw [hr];simp⟩
def AllReadyE (P:Program) (md:Region.Mode) (ops:Array Oper) (Q:Exit→Act→World→Prop) (S:World→Prop) (fuel:Nat) (listed:Array Bool) (a:Act) (w:World) (rs:List Nat):Prop :=
 ∀ i ∈ rs,wpOp P ops Q i (fun a' w'=>(qou md ops i=false→S w')∧qcs P md ops Q S fuel (listed.setIfInBounds i true) a' w') a w
theorem AllReadyE.nil {fuel:Nat} {listed:Array Bool} {a:Act} {w:World}:AllReadyE P md ops Q S fuel listed a w []:=fun _ h=>by cases h
theorem AllReadyE.cons {fuel:Nat} {listed:Array Bool} {a:Act} {w:World} {i:Nat} {o:Oper} {rs:List Nat} (ho:ops[i]?=some o)
 (h:∀ K':Act→World→Prop,Shut (∀ a w,S w→(S w→qcs P md ops Q S fuel (listed.setIfInBounds i true) a w)→K' a w)→if Region.wanted o (yielded ops a.tmps)=true then Oper.wp P o a w K' Q else K' (a.put o.dst undef) w)
 (hs:AllReadyE P md ops Q S fuel listed a w rs):AllReadyE P md ops Q S fuel listed a w (i :: rs):=fun j hj=>by
 rcases List.mem_cons.1 hj with rfl | hj
 ·exact wpOp_step ho (fun K' hK=>h K' (fun a w hS hW=>hK a w ⟨fun _=>hS,hW hS⟩))
 ·exact hs j hj
theorem AllReadyE.last {fuel:Nat} {listed:Array Bool} {a:Act} {w:World} {i:Nat} {o:Oper} (ho:ops[i]?=some o) (hl:qou md ops i=true)
 (h:∀ K':Act→World→Prop,Shut (∀ a w,qcs P md ops Q S fuel (listed.setIfInBounds i true) a w→K' a w)→if Region.wanted o (yielded ops a.tmps)=true then Oper.wp P o a w K' Q else K' (a.put o.dst undef) w):AllReadyE P md ops Q S fuel listed a w [i]:=fun j hj=>by
 rcases List.mem_cons.1 hj with rfl | hj
 ·exact wpOp_step ho (fun K' hK=>h K' (fun a w hW=>hK a w ⟨(fun hf=>by rw [hl] at hf;cases hf),hW⟩))
 ·cases hj
theorem qdt {rs:List Nat} {fuel:Nat} {listed:Array Bool} {a:Act} {w:World} (hr:Region.ready md ops listed=rs) (hne:rs≠[])
 (h:AllReadyE P md ops Q S fuel listed a w rs):qcs P md ops Q S (fuel + 1) listed a w:=qwr hr hne h
theorem qcz {id:Nat} {a:Act} {w:World} (S:World→Prop) (hm:P.follows .mixedOrders=true)
 (h:qcs P .any ops Q S ops.size (Array.replicate ops.size false) a w.drew):(Code.region id ops true).wp P Q a w :=
 wp_region_any hm (qnu _ _ _ _ h)
end
theorem qil {P:Program} {ops:Array Oper} {Q:Exit→Act→World→Prop} {md:Region.Mode} {S:World→Prop} {i:Nat} {oi:Oper} {v:Value} {fuel:Nat} {listed:Array Bool} {a:Act} {w:World} (d:Option Tmp) (hi:ops[i]?=some oi) (hd:oi.dst=d)
 (hs:Region.noSelect ops=true) (hf:Region.free md ops listed i=true) (hr:(Region.ready md ops listed).contains i=true)
 (hQ:∀ c a w,Q (.panic c) (a.put d v) w→Q (.panic c) a w) (hy:YieldsIf P ops S oi v a) (hS:S w)
 (h:qcs P md ops Q S fuel (listed.setIfInBounds i true) (a.put d v) w):qcs P md ops Q S (fuel + 1) listed a w:=by
 subst hd
 exact qss hi hs hf hr hQ hy hS h
theorem tkF {P:Program} {ops:Array Oper} {Q:Exit→Act→World→Prop} {md:Region.Mode} {S:World→Prop} {oi:Oper} {v:Value} {fuel:Nat} {listed:Array Bool} {a:Act} {w:World} (t i:Nat) (hi:ops[i]?=some oi) (hd:oi.dst=some t) (hS:S w)
 (h:qcs P md ops Q S fuel (listed.setIfInBounds i true) (a.put (some t) v) w) (hy:∀ w,S w→(execOp a.eval oi).run P w=.ok (.value v) w:=by (intro W hW;(try dsimp only at hW);go_simp;with_reducible rfl)) (hQ:∀ c a w,Q (.panic c) (a.put (some t) v) w→Q (.panic c) a w:=by exact fun _ _ _ h=>h)
 (hs:Region.noSelect ops=true:=by kernel_rfl) (hf:Region.free md ops listed i=true:=by kernel_rfl) (hr:(Region.ready md ops listed).contains i=true:=by kernel_rfl) (hw:Region.wanted oi (yielded ops a.tmps)=true:=by rfl):qcs P md ops Q S (fuel + 1) listed a w :=
 qil (some t) hi hd hs hf hr hQ (Or.inl ⟨hw,hy⟩) hS h
theorem rdy1 {P:Program} {ops:Array Oper} {Q:Exit→Act→World→Prop} {md:Region.Mode} {S:World→Prop} {oi:Oper} {fuel:Nat} {listed:Array Bool} {a:Act} {w:World} (i:Nat) (ho:ops[i]?=some oi)
 (h:∀ K':Act→World→Prop,Shut (∀ a w,S w→(S w→qcs P md ops Q S fuel (listed.setIfInBounds i true) a w)→K' a w)→if Region.wanted oi (yielded ops a.tmps)=true then Oper.wp P oi a w K' Q else K' (a.put oi.dst undef) w)
 (hr:Region.ready md ops listed=[i]:=by kernel_rfl):qcs P md ops Q S (fuel + 1) listed a w:=qdt hr (by simp) (AllReadyE.cons ho h AllReadyE.nil)
theorem rdyL {P:Program} {ops:Array Oper} {Q:Exit→Act→World→Prop} {md:Region.Mode} {S:World→Prop} {oi:Oper} {fuel:Nat} {listed:Array Bool} {a:Act} {w:World} (i:Nat) (ho:ops[i]?=some oi)
 (h:∀ K':Act→World→Prop,Shut (∀ a w,qcs P md ops Q S fuel (listed.setIfInBounds i true) a w→K' a w)→if Region.wanted oi (yielded ops a.tmps)=true then Oper.wp P oi a w K' Q else K' (a.put oi.dst undef) w)
 (hr:Region.ready md ops listed=[i]:=by kernel_rfl) (hl:qou md ops i=true:=by kernel_rfl):qcs P md ops Q S (fuel + 1) listed a w:=qdt hr (by simp) (AllReadyE.last ho hl h)
theorem sA {α:Type} (l:List α) (i:Nat) (a:α):l.toArray.setIfInBounds i a=(l.set i a).toArray:=by simp
theorem s0 {α:Type} (x a:α) (l:List α):(x :: l).set 0 a=a :: l:=rfl
theorem s1 {α:Type} (x a:α) (l:List α) (n:Nat):(x :: l).set (n + 1) a=x :: l.set n a:=rfl
end Go.Proofs.YtlkmagmdhopcjaaGreat
