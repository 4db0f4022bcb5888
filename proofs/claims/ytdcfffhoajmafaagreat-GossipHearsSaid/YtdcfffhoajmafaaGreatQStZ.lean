/- Texts that the law leans on. -/
import Derived.Deep.RegionHeld
import Derived.Test.YtdcfffhoajmafaaGreatQBase
import Derived.Test.YtdcfffhoajmafaaGreatQStV
import Derived.Test.YtdcfffhoajmafaaGreatQKnT
namespace Go.Proofs.YtdcfffhoajmafaaGreat
open Go Go.Proofs.Tryz
section
variable {P:Program} {ops:Array Oper} {Q:Exit->Act->World->Prop} {md:Region.Mode} {S:World->Prop}
def qpg (md:Region.Mode) (ops:Array Oper) (j:Nat):Bool:=match ops[j]? with
 | none=>false
 | some o=>(List.range ops.size).all fun k=>k == j || o.after.any fun e=>Region.binds md e && e.on == k
theorem qyf {j k:Nat} {o:Oper} (hj:ops[j]?=some o) (h:qpg md ops j=true) (hk:k < ops.size) (hne:k≠j):∃ e ∈ o.after,Region.binds md e=true/\e.on=k:=by
 unfold qpg at h;rw [hj] at h
 have:=vcx.1 h k (vbv.2 hk)
 simp only [vcd,vef,Array.any_eq_true'] at this;rcases this with h1 | ⟨e,he,hb⟩
 .exact absurd h1 hne
 simp only [vav,vef] at hb;exact ⟨e,he,hb.1,hb.2⟩
def qdo (P:Program) (md:Region.Mode) (ops:Array Oper) (Q:Exit->Act->World->Prop) (S:World->Prop):Nat->Array Bool->Act->World->Prop
 | 0,listed,a,w=>Region.ready md ops listed=[]/\Q .normal a w
 | fuel + 1,listed,a,w =>
   (Region.ready md ops listed=[]->Q .normal a w) /\
   ∀ i ∈ Region.ready md ops listed,wpOp P ops Q i (fun a' w'=>(qpg md ops i=false->S w')/\qdo P md ops Q S fuel (listed.setIfInBounds i true) a' w') a w
theorem qok:∀ (fuel:Nat) (listed:Array Bool) (a:Act) (w:World),qdo P md ops Q S fuel listed a w->wpAny P md ops Q fuel listed a w
 | 0,_,_,_,h=>h
 | fuel + 1,_,_,_,h=>⟨h.1,fun i hi=>wpOp_mono (fun a' w' h'=>qok fuel _ a' w' h'.2) (h.2 i hi)⟩
theorem qqw {i:Nat} {oi:Oper} {v:Value} (hi:ops[i]?=some oi) (hsel:∀ (j:Nat) (o:Oper) cs b,ops[j]?=some o->o.op≠.select cs b)
 (hQ:∀ c a w,Q (.panic c) (a.put oi.dst v) w->Q (.panic c) a w) :
 ∀ (fuel:Nat) (listed:Array Bool) (a:Act) (w:World),
  (∀ j oj,ops[j]?=some oj->j≠i->listed.getD j true=false->(∀ e ∈ oj.after,Region.binds md e=true->e.on≠i)->oi.apart ops oj=true) ->
  i ∈ Region.ready md ops listed->YieldsIf P ops S oi v a->S w ->
  qdo P md ops Q S fuel (listed.setIfInBounds i true) (a.put oi.dst v) w->qdo P md ops Q S (fuel + 1) listed a w:=by
 intro fuel
 induction fuel with
 | zero =>
   intro listed a w _ hr hy hS H;refine ⟨fun h=>(by rw [h] at hr;cases hr),fun j hj=>?_⟩;by_cases hji:j=i
   .subst hji;exact hy.wpOp hi hS ⟨fun _=>hS,H⟩
   have:=ready_mono hj hji
   rw [H.1] at this;cases this
 | succ fuel ih =>
   intro listed a w hfree hr hy hS H;refine ⟨fun h=>(by rw [h] at hr;cases hr),fun j hj=>?_⟩;by_cases hji:j=i
   .subst hji;exact hy.wpOp hi hS ⟨fun _=>hS,H⟩
   have h1:=H.2 j (ready_mono hj hji);obtain ⟨hjun,oj,hoj,hall⟩:=mem_ready.1 hj;have hnot:∀ e ∈ oj.after,Region.binds md e=true->e.on≠i:=fun e he hb heq=>by
    have h1:=hall e he hb;have h0:=(mem_ready.1 hr).1;rw [heq] at h1;rcases val i listed.size with h' | h'
    .simp [h'] at h0 h1;rw [h0] at h1;cases h1
    simp [Array.getElem?_eq_none h'] at h1
   have hlast:qpg md ops j=false:=by
    cases hb:qpg md ops j
    .rfl
    obtain ⟨e,he,hb1,hb2⟩:=qyf hoj hb (vbm.1 hi).1 (Ne.symm hji);exact absurd hb2 (hnot e he hb1)
   have h2:=wpOp_putIf hoj (hfree j oj hoj hji hjun hnot) (fun cs b=>hsel i oi cs b hi) (fun cs b=>hsel j oj cs b hoj) hQ hy h1;have hfree':∀ k ok,ops[k]?=some ok->k≠i->(listed.setIfInBounds j true).getD k true=false ->
    (∀ e ∈ ok.after,Region.binds md e=true->e.on≠i)->oi.apart ops ok=true:=fun k ok hk hki hun hno=>by
    refine hfree k ok hk hki ?_ hno;by_cases hjk:j=k
    .subst hjk;exact hjun
    rw [getD_set_ne true hjk] at hun;exact hun
   refine wpOp_mono (fun a' w' h3=>⟨h3.2.1,ih (listed.setIfInBounds j true) a' w' hfree' (ready_mono hr (Ne.symm hji)) h3.1 (h3.2.1 hlast) ?_⟩) h2;rw [Array.setIfInBounds_comm _ _ hji];exact h3.2.2
theorem qts {i:Nat} {oi:Oper} {v:Value} {fuel:Nat} {listed:Array Bool} {a:Act} {w:World} (hi:ops[i]?=some oi)
 (hs:Region.noSelect ops=true) (hf:Region.free md ops listed i=true) (hr:(Region.ready md ops listed).contains i=true)
 (hQ:∀ c a w,Q (.panic c) (a.put oi.dst v) w->Q (.panic c) a w) (hy:YieldsIf P ops S oi v a) (hS:S w)
 (h:qdo P md ops Q S fuel (listed.setIfInBounds i true) (a.put oi.dst v) w):qdo P md ops Q S (fuel + 1) listed a w :=
 qqw hi (Region.noSelect_spec hs) hQ fuel listed a w (Region.free_spec hi hf) (by simpa using hr) hy hS h
theorem qyg {rs:List Nat} {fuel:Nat} {listed:Array Bool} {a:Act} {w:World} (hr:Region.ready md ops listed=rs) (hne:rs≠[])
 (h:∀ i ∈ rs,wpOp P ops Q i (fun a' w'=>(qpg md ops i=false->S w')/\qdo P md ops Q S fuel (listed.setIfInBounds i true) a' w') a w):qdo P md ops Q S (fuel + 1) listed a w :=
 ⟨fun h0=>absurd (hr ▸ h0) hne,hr ▸ h⟩
theorem qbw {listed:Array Bool} {a:Act} {w:World} (hr:Region.ready md ops listed=[]) (h:Q .normal a w) :
 ∀ fuel,qdo P md ops Q S fuel listed a w
 | 0=>⟨hr,h⟩
 | _ + 1=>⟨fun _=>h,by rw [hr];simp⟩
def AllReadyE (P:Program) (md:Region.Mode) (ops:Array Oper) (Q:Exit->Act->World->Prop) (S:World->Prop) (fuel:Nat) (listed:Array Bool) (a:Act) (w:World) (rs:List Nat):Prop :=
 ∀ i ∈ rs,wpOp P ops Q i (fun a' w'=>(qpg md ops i=false->S w')/\qdo P md ops Q S fuel (listed.setIfInBounds i true) a' w') a w
theorem AllReadyE.nil {fuel:Nat} {listed:Array Bool} {a:Act} {w:World}:AllReadyE P md ops Q S fuel listed a w []:=fun _ h=>by cases h
theorem AllReadyE.cons {fuel:Nat} {listed:Array Bool} {a:Act} {w:World} {i:Nat} {o:Oper} {rs:List Nat} (ho:ops[i]?=some o)
 (h:∀ K':Act->World->Prop,Shut (∀ a w,S w->(S w->qdo P md ops Q S fuel (listed.setIfInBounds i true) a w)->K' a w)->if Region.wanted o (yielded ops a.tmps)=true then Oper.wp P o a w K' Q else K' (a.put o.dst undef) w)
 (hs:AllReadyE P md ops Q S fuel listed a w rs):AllReadyE P md ops Q S fuel listed a w (i :: rs):=fun j hj=>by
 rcases vcb.1 hj with rfl | hj
 .exact wpOp_step ho (fun K' hK=>h K' (fun a w hS hW=>hK a w ⟨fun _=>hS,hW hS⟩))
 exact hs j hj
theorem AllReadyE.last {fuel:Nat} {listed:Array Bool} {a:Act} {w:World} {i:Nat} {o:Oper} (ho:ops[i]?=some o) (hl:qpg md ops i=true)
 (h:∀ K':Act->World->Prop,Shut (∀ a w,qdo P md ops Q S fuel (listed.setIfInBounds i true) a w->K' a w)->if Region.wanted o (yielded ops a.tmps)=true then Oper.wp P o a w K' Q else K' (a.put o.dst undef) w):AllReadyE P md ops Q S fuel listed a w [i]:=fun j hj=>by
 rcases vcb.1 hj with rfl | hj
 .exact wpOp_step ho (fun K' hK=>h K' (fun a w hW=>hK a w ⟨(fun hf=>by rw [hl] at hf;cases hf),hW⟩))
 cases hj
theorem qdt {rs:List Nat} {fuel:Nat} {listed:Array Bool} {a:Act} {w:World} (hr:Region.ready md ops listed=rs) (hne:rs≠[])
 (h:AllReadyE P md ops Q S fuel listed a w rs):qdo P md ops Q S (fuel + 1) listed a w:=qyg hr hne h
theorem qct {id:Nat} {a:Act} {w:World} (S:World->Prop) (hm:P.follows .mixedOrders=true)
 (h:qdo P .any ops Q S ops.size (Array.replicate ops.size false) a w.drew):(Code.region id ops true).wp P Q a w :=
 wp_region_any hm (qok _ _ _ _ h)
end
theorem qht {P:Program} {ops:Array Oper} {Q:Exit->Act->World->Prop} {md:Region.Mode} {S:World->Prop} {i:Nat} {oi:Oper} {v:Value} {fuel:Nat} {listed:Array Bool} {a:Act} {w:World} (d:Option Tmp) (hi:ops[i]?=some oi) (hd:oi.dst=d)
 (hs:Region.noSelect ops=true) (hf:Region.free md ops listed i=true) (hr:(Region.ready md ops listed).contains i=true)
 (hQ:∀ c a w,Q (.panic c) (a.put d v) w->Q (.panic c) a w) (hy:YieldsIf P ops S oi v a) (hS:S w)
 (h:qdo P md ops Q S fuel (listed.setIfInBounds i true) (a.put d v) w):qdo P md ops Q S (fuel + 1) listed a w:=by
 subst hd;exact qts hi hs hf hr hQ hy hS h
theorem tkF {P:Program} {ops:Array Oper} {Q:Exit->Act->World->Prop} {md:Region.Mode} {S:World->Prop} {oi:Oper} {v:Value} {fuel:Nat} {listed:Array Bool} {a:Act} {w:World} (t i:Nat) (hi:ops[i]?=some oi) (hd:oi.dst=some t) (hS:S w)
 (h:qdo P md ops Q S fuel (listed.setIfInBounds i true) (a.put (some t) v) w) (hy:∀ w,S w->(execOp a.eval oi).run P w=.ok (.value v) w:=by (intro W hW;(try dsimp only at hW);go_simp;with_reducible rfl)) (hQ:∀ c a w,Q (.panic c) (a.put (some t) v) w->Q (.panic c) a w:=by exact fun _ _ _ h=>h)
 (hs:Region.noSelect ops=true:=by kernel_rfl) (hf:Region.free md ops listed i=true:=by kernel_rfl) (hr:(Region.ready md ops listed).contains i=true:=by kernel_rfl) (hw:Region.wanted oi (yielded ops a.tmps)=true:=by rfl):qdo P md ops Q S (fuel + 1) listed a w :=
 qht (some t) hi hd hs hf hr hQ (Or.inl ⟨hw,hy⟩) hS h
theorem rdy1 {P:Program} {ops:Array Oper} {Q:Exit->Act->World->Prop} {md:Region.Mode} {S:World->Prop} {oi:Oper} {fuel:Nat} {listed:Array Bool} {a:Act} {w:World} (i:Nat) (ho:ops[i]?=some oi)
 (h:∀ K':Act->World->Prop,Shut (∀ a w,S w->(S w->qdo P md ops Q S fuel (listed.setIfInBounds i true) a w)->K' a w)->if Region.wanted oi (yielded ops a.tmps)=true then Oper.wp P oi a w K' Q else K' (a.put oi.dst undef) w)
 (hr:Region.ready md ops listed=[i]:=by kernel_rfl):qdo P md ops Q S (fuel + 1) listed a w:=qdt hr js (AllReadyE.cons ho h AllReadyE.nil)
theorem rdyL {P:Program} {ops:Array Oper} {Q:Exit->Act->World->Prop} {md:Region.Mode} {S:World->Prop} {oi:Oper} {fuel:Nat} {listed:Array Bool} {a:Act} {w:World} (i:Nat) (ho:ops[i]?=some oi)
 (h:∀ K':Act->World->Prop,Shut (∀ a w,qdo P md ops Q S fuel (listed.setIfInBounds i true) a w->K' a w)->if Region.wanted oi (yielded ops a.tmps)=true then Oper.wp P oi a w K' Q else K' (a.put oi.dst undef) w)
 (hr:Region.ready md ops listed=[i]:=by kernel_rfl) (hl:qpg md ops i=true:=by kernel_rfl):qdo P md ops Q S (fuel + 1) listed a w:=qdt hr js (AllReadyE.last ho hl h)
theorem sA {α:Type} (l:List α) (i:Nat) (a:α):l.toArray.setIfInBounds i a=(l.set i a).toArray:=by simp
theorem s0 {α:Type} (x a:α) (l:List α):(x :: l).set 0 a=a :: l:=rfl
theorem s1 {α:Type} (x a:α) (l:List α) (n:Nat):(x :: l).set (n + 1) a=x :: l.set n a:=rfl
theorem tkG {P:Program} {ops:Array Oper} {Q:Exit->Act->World->Prop} {md:Region.Mode} {S:World->Prop} {oi:Oper} {v:Value} {fuel:Nat} {listed:Array Bool} {a a2:Act} {w:World} (t i:Nat) (hS:S w) (h:qdo P md ops Q S fuel (listed.setIfInBounds i true) a2 w) (hi:ops[i]?=some oi:=by rfl) (hd:oi.dst=some t:=by rfl) (hy:∀ w,S w->(execOp a.eval oi).run P w=.ok (.value v) w:=by (intro W hW;(try dsimp only at hW);go_simp;with_reducible rfl)) (ha:a.put (some t) v=a2:=by simp only [Act.put,sA,s0,s1]) (hQ:∀ c a w,Q (.panic c) (a.put (some t) v) w->Q (.panic c) a w:=by exact fun _ _ _ h=>h) (hs:Region.noSelect ops=true:=by kernel_rfl) (hf:Region.free md ops listed i=true:=by kernel_rfl) (hr:(Region.ready md ops listed).contains i=true:=by kernel_rfl) (hw:Region.wanted oi (yielded ops a.tmps)=true:=by rfl):qdo P md ops Q S (fuel + 1) listed a w :=
 tkF t i hi hd hS (by rw [ha];exact h) hy hQ hs hf hr hw
end Go.Proofs.YtdcfffhoajmafaaGreat
set_option maxRecDepth 100000
set_option maxHeartbeats 16000000
namespace Go.Proofs.YtdcfffhoajmafaaGreat
open Go.RowKit Go.Sort Go.Lib Go.Proofs.Tryz
attribute [local go_sem ↓] qap qan
attribute [local go_sem] qaw qao qal qbb qbv
def AddP (r:RP) (p:Nat) (x:KE):Prop:=AddR r.k.z[p]!.kn r.floor r.clock r.o.z x.kn/\x.r.z.size<=r.k.z[p]!.r.z.size + r.k.z[p]!.a.z.size + r.o.z.size + 1
theorem far3 (W:World) (g:Nat) (d f i:Value) (b t:Nat) (h:b≠g\/t < 0 * 3\/0 * 3 + 3<=t):(((W.setCell ⟨g,0,none⟩ d).setCell ⟨g,1,none⟩ f).setCell ⟨g,2,none⟩ i).cell? ⟨b,t,none⟩=W.cell? ⟨b,t,none⟩:=by
 have a:∀ (V:World) (j:Nat) (v:Value),(⟨g,j,none⟩:Addr)≠⟨b,t,none⟩->(V.setCell ⟨g,j,none⟩ v).cell? ⟨b,t,none⟩=V.cell? ⟨b,t,none⟩:=fun V j v c=>vcz V _ _ v c
 rw [a _ _ _ (by intro e;injection e with e1 e2;omega),a _ _ _ (by intro e;injection e with e1 e2;omega),a _ _ _ (by intro e;injection e with e1 e2;omega)]
theorem qly {W:World} {g:Nat} {T:TypeId} (j:W.heap[g]?=some (.cells #[.int .i64 0,.slice none 0 0,.slice none 0 0] T (0,0))) {x:KE} (b:RdKE W x) (c d e:Value):RdKE (((W.setCell ⟨g,0,none⟩ c).setCell ⟨g,1,none⟩ d).setCell ⟨g,2,none⟩ e) x:=by
 have a:(((W.setCell ⟨g,0,none⟩ c).setCell ⟨g,1,none⟩ d).setCell ⟨g,2,none⟩ e).heap.size=W.heap.size:=by simp
 have f:∀ t,t < (#[ke0]:Array KE).size * 3->W.cell? ⟨g,t,none⟩=some (flatK qav 3 #[ke0])[t]!:=fun t h=>by
  have k:t < 3:=by simpa using h
  rw [vas W g t _ _ (0,0) j,get_flatK _ _ _ _ h];rcases (show t=0\/t=1\/t=2 by omega) with rfl | rfl | rfl <;> rfl
 exact ⟨⟨by rw [a];exact qft qnn f b.r.rd (i:=0) jd (far3 W g c d e),b.r.no⟩,⟨by rw [a];exact qft qno f b.a.rd (i:=0) jd (far3 W g c d e),b.a.no⟩⟩
theorem qqv {W:World} {g:Nat} {T:TypeId} (d:W.heap[g]?=some (.cells #[.int .i64 0,.slice none 0 0,.slice none 0 0] T (0,0))) (a b c:Value):(((W.setCell ⟨g,0,none⟩ a).setCell ⟨g,1,none⟩ b).setCell ⟨g,2,none⟩ c).heap[g]?=some (.cells #[a,b,c] T (0,0)) :=
 vdh _ g 2 _ T c (vdh _ g 1 _ T b (vdh W g 0 _ T a d))
theorem qpd (r:RP) (w:World) (h:RdP w r) (hf:FewM r) (hc:chkR r=true) :
 Calls prog 35 #[.agg (encP r).toArray] w fun e d=>(∃ s:RP,e=.returned (.agg (encP s).toArray)/\RefR r s/\SepR r w.heap.size d s)/\Below w.heap.size w d:=by
 have m2:=qgf hc;obtain ⟨p,hp⟩:∃ p:Nat,r.self=(p:Int) + 1:=⟨r.self.toNat - 1,by have:=(qew hc).2;omega⟩
 have B:p < r.k.z.size:=by have:=(qew hc).2;omega
 have r5:=hf.c.k;have HC:Hid (∀ W,Below w.heap.size w W->Calls prog 15 #[.agg (encP r).toArray] W fun e d=>e=.returned (.int .i64 0)/\Below W.heap.size W d):=fun W b=>by
  have:=qcx r W (h.below b) hf.c
  rwa [qdh hc] at this
 obtain ⟨bk,ok,hA,_,_⟩:=h.k.rd.at_ (i:=p) B;have i7:Hid (∀ W,Below w.heap.size w W->Calls prog 33 #[.slice r.k.A r.k.z.size r.k.c] W fun e d=>∃ g c,e=.returned (.slice (some ⟨g,0,none⟩) r.k.z.size c)/\W.heap.size<=g/\d.ownsRow W.heap.size 66 3 (.slice (some ⟨g,0,none⟩) r.k.z.size c) r.k.z.size (flatK qav 3 r.k.z).toList/\Below W.heap.size W d):=fun W b=>by
  have h1:=(h.k.below b).rd;have p5:r.k.A=some ⟨bk,ok,none⟩:=hA;rw [p5] at h1 |-
  refine (CloneKn ⟨bk,ok,none⟩ r.k.c r.k.z W h1 jo).mono fun e d ⟨v,he,ho,a0⟩=>?_
  obtain ⟨g,c,rfl,hg,hl⟩:=qif ho jo;exact ⟨g,c,he,hg,ho,a0⟩
 have a3:Hid (∀ W,Below w.heap.size w W->w.heap.size + 2<=W.heap.size->Calls prog 30 #[.agg (qav r.k.z[p]!).toArray,.int .i64 r.floor,.int .i64 r.clock,.slice r.o.A r.o.z.size r.o.c] W fun e d=>∃ x:KE,e=.returned (.tuple #[.agg (qav x).toArray,.int .i64 0])/\AddP r p x/\RdKE d x/\FarK w x/\Below W.heap.size W d):=fun W b q8=>by
  have h1:=hf.s p B (by rw [hp]);have h2:=hf.o;have c0:=(h.kk p B).below b;refine (qwo r.k.z[p]!.base r.k.z[p]!.r.z r.k.z[p]!.a.z r.k.z[p]!.r.A r.k.z[p]!.r.c r.k.z[p]!.a.A r.k.z[p]!.a.c r.floor r.clock r.o.z r.o.A r.o.c W c0.r.rd c0.a.rd (h.o.below b).rd (qnk (qco.1 (qie hc p B)) (qfo hc)) jo jo jo).mono fun e d ⟨v,kn,he,hv,ha,i5,a0⟩=>?_
  obtain ⟨x,rfl,rfl,I,f1,f2⟩:=keOfF hv;exact ⟨x,he,⟨ha,i5⟩,I,FarK.new q8 f1 f2,a0⟩
 have a7:=hI h;have b1:=hI hf;have R:=hI hc;obtain ⟨cs,z⟩:∃ cs,cs=(encP r).toArray:=⟨_,rfl⟩
 obtain ⟨i5,r9⟩:=rowP z;have n6:=hI z;have f7:Hid (cs[9]?=some (.slice r.k.A r.k.z.size r.k.c)):=by show _=_;rw [z];rfl
 have HP:=hI hp;have d3:=hI m2;have q9:IntKind.i64.wrap (p:Int)=(p:Int):=vcu _ jo;have q5:(p:Int) < (r.k.z.size:Int):=by omega
 rw [<-z] at HC;have i1:∀ x:Array Value,cs=x->Calls prog 35 #[.agg x] w fun e d=>(∃ s:RP,e=.returned (.agg (encP s).toArray)/\RefR r s/\SepR r w.heap.size d s)/\Below w.heap.size w d:=by
  rintro _ rfl;simp only [encP] at z;clear h hf hc hp hA m2;rw [z];go_in;rw [<-z];clear z;have HX:=hI (BoxG.fst w cs qby 35 35);have HZ:=hI (BoxG.snd w cs qby 35 35);simp only [qby] at HX HZ;have x1:=HX.out.box i5;have x2:=HX.out.rowAt
  go_wp2_with (first
   | (go_at_call 15;refine (HC.out _ HX.out.b).mono ?_;rintro _ w1 ⟨rfl,b⟩;have U:=hI (HX.out.next b);have g7:=hI (HZ.out.next b);clear b x1 x2;have c9:=U.out.at_ 9 f7.out)
   | (go_at_call 33;refine (i7.out _ U.out.b).mono ?_;rintro _ w2 ⟨K,J,rfl,p6,e9,b⟩;have d5:=hI (U.out.next b);have k8:=hI (g7.out.next b);have j5:=hI e9;have k5:=U.out.lt;have l1:=g7.out.lt;have n4:=hI b;clear b c9 e9;have c9:=d5.out.at_ 9 f7.out;have f9:=d5.out.froz 9))
  have O:Hid (RefW w r K J r.k.z (w2.setCell ⟨w.heap.size,9,none⟩ (.slice (some ⟨K,0,none⟩) r.k.z.size J))):=by
   have I:=d5.out.set (vaa _) 9 (.slice (some ⟨K,0,none⟩) r.k.z.size J);have q:cs.setIfInBounds 9 (.slice (some ⟨K,0,none⟩) r.k.z.size J)=(encP (kR r K J r.k.z)).toArray:=by rw [n6.out];rfl
   rw [q] at I;exact ⟨I,k8.out.far (g2:=w.heap.size) (vaa _) jo 9 _,qdj (qcm j5.out k5 9 _) jo,fun i X=>((a7.out.kk i X).below I.b),fun i X=>FarK.old (a7.out.kk i X)⟩
  obtain ⟨C,m7⟩:∃ W,W=w2.setCell ⟨w.heap.size,9,none⟩ (.slice (some ⟨K,0,none⟩) r.k.z.size J):=⟨_,rfl⟩
  rw [<-m7] at O |-
  clear m7 c9 f9 HX HZ U g7 d5 k8 j5 n4 k5 l1 p6 f7 HC i7
  go_cut [3,4] from 17 to 33 (fun v3 v4 wx=>∃ (g:Nat) (x:KE),v3=.pointer (some ⟨g,0,none⟩)/\v4=.int .i64 0/\Hid (AddP r p x)/\Hid (FarK w x)/\Hid (RdKE wx x)/\Hid (wx.heap[g]?=some (.cells (qav x).toArray 66 (0,0)))/\Hid (w.heap.size + 2<=g/\g≠K)/\Hid (RefW w r K J r.k.z wx))
  case first =>
   have l6:Below C.heap.size C C:=vag _ _;obtain ⟨u,hu⟩:∃ u,r.k.z[p]! = u:=⟨_,rfl⟩
   have k4:=hI O.out.x;have BW:=hI (fun (W:World) (b:Below C.heap.size C W)=>qaa k4.out.b b);have p7:=O.out.hK;have BS:=hI (fun (W:World) (b:Below C.heap.size C W)=>(show w.heap.size + 2<=W.heap.size from by have:=b.size;omega));clear p7;have KS:Hid (∀ W,Below C.heap.size C W->Below C.heap.size C W/\W.cell? ⟨w.heap.size,9,none⟩=some (.slice (some ⟨K,0,none⟩) r.k.z.size J)/\W.cell? ⟨w.heap.size,2,none⟩=some (.int .i64 ((p:Int) + 1))/\W.cell? ⟨w.heap.size,5,none⟩=some (.int .i64 r.floor)/\W.cell? ⟨w.heap.size,3,none⟩=some (.int .i64 r.clock)/\W.cell? ⟨w.heap.size,8,none⟩=some (.slice r.o.A r.o.z.size r.o.c)/\W.cell? ⟨K,p * 3,none⟩=some (.int .i64 u.base)/\W.cell? ⟨K,p * 3 + 1,none⟩=some (.slice u.r.A u.r.z.size u.r.c)/\W.cell? ⟨K,p * 3 + 2,none⟩=some (.slice u.a.A u.a.z.size u.a.c)):=fun W b=>by
    have I:=k4.out.next b;have hw:=O.out.next b;exact ⟨b,I.at_ 9 rfl,(I.at_ 2 (v:=.int .i64 r.self) rfl).trans (by rw [HP.out]),I.at_ 5 rfl,I.at_ 3 rfl,I.at_ 8 rfl,hu ▸ hw.cells B 0 jo,hu ▸ hw.cells B 1 jo,hu ▸ hw.cells B 2 jo⟩
   rw [hu] at a3;simp only [qav] at a3;clear hu;go_region_held3 (fun W=>Below C.heap.size C W/\W.cell? ⟨w.heap.size,9,none⟩=some (.slice (some ⟨K,0,none⟩) r.k.z.size J)/\W.cell? ⟨w.heap.size,2,none⟩=some (.int .i64 ((p:Int) + 1))/\W.cell? ⟨w.heap.size,5,none⟩=some (.int .i64 r.floor)/\W.cell? ⟨w.heap.size,3,none⟩=some (.int .i64 r.clock)/\W.cell? ⟨w.heap.size,8,none⟩=some (.slice r.o.A r.o.z.size r.o.c)/\W.cell? ⟨K,p * 3,none⟩=some (.int .i64 u.base)/\W.cell? ⟨K,p * 3 + 1,none⟩=some (.slice u.r.A u.r.z.size u.r.c)/\W.cell? ⟨K,p * 3 + 2,none⟩=some (.slice u.a.A u.a.z.size u.a.c)) (exact KS.out _ (by first | assumption | exact vaq jN | exact qab jy _ | exact (qab jN _).drew | exact ((Below.setCell (p:=⟨C.heap.size,0,none⟩) jN (vaa _) _).setCell (p:=⟨C.heap.size,1,none⟩) (vaa _) _).setCell (p:=⟨C.heap.size,2,none⟩) (vaa _) _))
    (first
      | (go_at_call 30;((with_reducible refine (a3.out _ (BW.out _ jw) (BS.out _ jw)).mono ?_);rintro e Q ⟨x,rfl,l5,m5,m1,t⟩;have M:Below C.heap.size C Q:=qaa jw t;have a5:=hI l5;have b2:=hI m5;have d1:=hI m1;clear l5 m5 m1;(try (have hq:Q.heap[C.heap.size]?=some (.cells #[.int .i64 0,.slice none 0 0,.slice none 0 0] 66 (0,0)):=(t.block C.heap.size js).trans (vaw C _);have z0:Q.cell? ⟨C.heap.size,0,none⟩=some (.int .i64 0):=(vas Q _ 0 _ _ (0,0) hq).trans rfl;have z1:Q.cell? ⟨C.heap.size,1,none⟩=some (.slice none 0 0):=(vas Q _ 1 _ _ (0,0) hq).trans rfl;have z2:Q.cell? ⟨C.heap.size,2,none⟩=some (.slice none 0 0):=(vas Q _ 2 _ _ (0,0) hq).trans rfl;have y0:Q.frozen? ⟨C.heap.size,0,none⟩=false:=(by simp [World.frozen?,hq]);have y1:Q.frozen? ⟨C.heap.size,1,none⟩=false:=(by simp [World.frozen?,hq]);have y2:Q.frozen? ⟨C.heap.size,2,none⟩=false:=(by simp [World.frozen?,hq]);have HQ:=hI hq;clear hq));clear t)))
   .go_wp2
    go_meet;have V:=O.out.hK;have s2:=M.size;exact ⟨Q.heap.size,x,rfl,rfl,a5,d1,b2.out.below (bel1 Q _),vaw Q _,⟨by omega,by omega⟩,O.out.next (qab M _)⟩
   go_wp2;go_meet;have V:=O.out.hK;exact ⟨C.heap.size,x,rfl,rfl,a5,d1,qly HQ.out b2.out _ _ _,qqv HQ.out _ _ _,⟨by omega,by omega⟩,O.out.next (((M.setCell (p:=⟨C.heap.size,0,none⟩) (vaa _) _).setCell (p:=⟨C.heap.size,1,none⟩) (vaa _) _).setCell (p:=⟨C.heap.size,2,none⟩) (vaa _) _)⟩
  case rest =>
   obtain ⟨g,x,rfl,rfl,a5,d1,b2,d2,n8,O⟩:=hcut;clear a3;have V:=O.out.hK;have r7:¬ K=w.heap.size:=by omega
   have r8:¬ w.heap.size=K:=by omega
   have c9:=O.out.x.at_ 9 (v:=.slice (some ⟨K,0,none⟩) r.k.z.size J) rfl;have c2:=(O.out.x.at_ 2 (v:=.int .i64 r.self) rfl).trans (by rw [HP.out]);have g0:wc.cell? ⟨g,0,none⟩=some (.int .i64 x.base):=(vas wc g 0 _ _ (0,0) d2.out).trans rfl;have g1:wc.cell? ⟨g,1,none⟩=some (.slice x.r.A x.r.z.size x.r.c):=(vas wc g 1 _ _ (0,0) d2.out).trans rfl;have g2:wc.cell? ⟨g,2,none⟩=some (.slice x.a.A x.a.z.size x.a.c):=(vas wc g 2 _ _ (0,0) d2.out).trans rfl;have k0:=O.out.cells B 0 jo;have k1:=O.out.cells B 1 jo;have k2:=O.out.cells B 2 jo;have q0:=O.out.froz (p * 3);have q1:=O.out.froz (p * 3 + 1);have q2:=O.out.froz (p * 3 + 2);generalize (qav r.k.z[p]!)[0]! = y0 at k0;generalize (qav r.k.z[p]!)[1]! = y1 at k1;generalize (qav r.k.z[p]!)[2]! = y2 at k2;rw [vak] at k0;go_wp2;have g4:=hI (O.out.put B b2.out d1.out);obtain ⟨wl,n0⟩:∃ W,W=(((wc.setCell ⟨K,p * 3,none⟩ (.int .i64 x.base)).setCell ⟨K,p * 3 + 1,none⟩ (.slice x.r.A x.r.z.size x.r.c)).setCell ⟨K,p * 3 + 2,none⟩ (.slice x.a.A x.a.z.size x.a.c)):=⟨_,rfl⟩
   rw [<-n0] at g4 |-
   obtain ⟨kb,a9⟩:∃ kb,r.k.z.setIfInBounds p x=kb:=⟨_,rfl⟩
   have L:Hid (KbR r p kb):=by
    refine ⟨by rw [<-a9];simp,fun i X N=>?_,?_,?_⟩
    .rw [<-a9,vbx,vbx,vbb,vao (Ne.symm N)]
    .rw [<-a9,getElem!_set_same _ p x B];exact a5.out.1
    rw [<-a9,getElem!_set_same _ p x B];exact a5.out.2
   rw [a9] at g4;have j1:Hid (KsR r kb kb 0):=⟨rfl,fun i X=>absurd X (vci i),fun i _ _=>rfl⟩
   have Y:=hI B;clear n0 a9 a5 b2 d2 n8 O V c9 c2 g0 g1 g2 k0 k1 k2 q0 q1 q2 q9 q5 B
   go_loopw [46] (fun i wr=>∃ (k:Nat) (F:Array KE),i=.int .i64 k/\k<=r.k.z.size/\Hid (KsR r kb F k)/\Hid (RefW w r K J F wr)/\Hid (∀ i,i < k->FarN w F[i]!)) (fun i _=>r.k.z.size - (intOf i).toNat)
   case atStart=>exact ⟨0,kb,rfl,vaj _,j1,g4,hI (fun i X=>absurd X (vci i))⟩
   case round =>
    obtain ⟨k,F,rfl,hk,T,l,j0⟩:=hrel;by_cases i2:k < r.k.z.size
    .have kz:(k:Int) < (r.k.z.size:Int):=by omega
     have a1:F.size=r.k.z.size:=T.out.sz.trans L.out.sz;have H:k < F.size:=by omega
     have V:=l.out.hK;have b0:=hI (L.out.chk R.out b1.out HP.out Y.out k i2);have HE:=hI (T.out.hi k (vaa _) (by rw [L.out.sz];exact i2));have i8:=hI (T.out.few (K:=K) (cK:=J) L.out R.out b1.out HP.out Y.out);obtain ⟨u,hu⟩:∃ u,F[k]! = u:=⟨_,rfl⟩
     have k0:=l.out.cells H 0 jo;have k1:=l.out.cells H 1 jo;have k2:=l.out.cells H 2 jo;have k3:Hid (RdKE wr u):=by show RdKE wr u;rw [<-hu];exact l.out.kk k H
     rw [hu] at k0 k1 k2 HE;simp only [qav,vac,vaf,vak] at k0 k1 k2;obtain ⟨D,a⟩:∃ c,c=(encP (kR r K J F)).toArray:=⟨_,rfl⟩
     obtain ⟨c4,i4⟩:=rowP a;have q3:=chkR_d R.out;have o2:Hid (∀ W,Below wr.heap.size wr W->Calls prog 86 #[.agg D,.agg #[.int .i64 u.base,.slice u.r.A u.r.z.size u.r.c,.slice u.a.A u.a.z.size u.a.c]] W fun e d=>(∃ (A:Option Addr) (s:Array Int) (c:Nat),e=.returned (.slice A s.size c)/\qnm r u.kn s/\RdI_R d.heap.size d A s/\s.size<=1000)/\Below W.heap.size W d):=fun W b=>by
      have b9:ChkP u.kn:=by rw [HE.out];exact b0.out.1
      have s1:u.a.z.size<=400:=by rw [HE.out];exact b0.out.2.2
      have:=over_any (kR r K J F) _ u.kn W ((l.out.next b).rd a7.out) (k3.out.below b).knV i8.out q3 (qco.2 b9) (by show u.a.z.size<=1000;omega)
      rw [<-a] at this;exact this
     have o7:Hid (∀ W (A:Option Addr) (s:Array Int) (c:Nat),Below wr.heap.size wr W->RdI_R W.heap.size W A s->s.size<=1000->Calls prog 85 #[.agg #[.int .i64 u.base,.slice u.r.A u.r.z.size u.r.c,.slice u.a.A u.a.z.size u.a.c],.slice A s.size c] W fun e d=>∃ y:KE,e=.returned (.agg #[.int .i64 y.base,.slice y.r.A y.r.z.size y.r.c,.slice y.a.A y.a.z.size y.a.c])/\SetR u.kn s y.kn/\RdKE d y/\FarN w y/\Below W.heap.size W d):=fun W A s c b h1 h2=>by
      have b9:ChkP u.kn:=by rw [HE.out];exact b0.out.1
      have q7:u.r.z.size<=500:=by rw [HE.out];exact b0.out.2.1
      have c0:=k3.out.below b;refine (qum u.base u.r.z u.a.z u.r.A u.r.c u.a.A u.a.c s A c W c0.r.rd c0.a.rd h1 b9 q7 jo).mono fun e d ⟨v,kn,he,hv,ha,_,a0⟩=>?_
      obtain ⟨y,rfl,rfl,hy,f1,f2⟩:=keOfF hv;exact ⟨y,he,ha,hy,FarN.new (jg b.size) f1 f2,a0⟩
     have d7:=hI (a ▸ l.out.x:BoxG w w.heap.size D 35 wr);have l4:D[9]?=some (.slice (some ⟨K,0,none⟩) r.k.z.size J):=by rw [a,<-a1];rfl
     have H9:=hI l4;have HU:=hI hu;have e4:=hI a;clear hu a l4 k0 k1 k2;have k0:=l.out.cells H 0 jo;have k1:=l.out.cells H 1 jo;have k2:=l.out.cells H 2 jo;rw [HU.out] at k0 k1 k2;simp only [qav,vac,vaf,vak] at k0 k1 k2;go_wp2;have f6:Hid ((wr.alloc (.cells #[.int .i64 u.base,.slice u.r.A u.r.z.size u.r.c,.slice u.a.A u.a.z.size u.a.c] 66)).heap[wr.heap.size]?=some (.cells #[.int .i64 u.base,.slice u.r.A u.r.z.size u.r.c,.slice u.a.A u.a.z.size u.a.c] 66 (0,0))):=vaw wr _;have f4:Hid (Below wr.heap.size wr (wr.alloc (.cells #[.int .i64 u.base,.slice u.r.A u.r.z.size u.r.c,.slice u.a.A u.a.z.size u.a.c] 66))):=bel1 wr _;have h7:wr.heap.size < (wr.alloc (.cells #[.int .i64 u.base,.slice u.r.A u.r.z.size u.r.c,.slice u.a.A u.a.z.size u.a.c] 66)).heap.size:=by simp
     obtain ⟨E,f3⟩:∃ W,W=wr.alloc (.cells #[.int .i64 u.base,.slice u.r.A u.r.z.size u.r.c,.slice u.a.A u.a.z.size u.a.c] 66):=⟨_,rfl⟩
     rw [<-f3] at f6 f4 h7 |-
     have U:=hI (d7.out.next f4.out);have r0:=U.out.lt;obtain ⟨G,hG⟩:∃ G,wr.heap.size=G:=⟨_,rfl⟩
     rw [hG] at f6 h7 V;clear f3 k0 k1 k2;have l6:Below E.heap.size E E:=vag _ _;have BW:=hI (fun (W:World) (b:Below E.heap.size E W)=>qaa f4.out b);have KS:Hid (∀ W,E.grownBy W (some K)->E.grownBy W (some K)/\W.cell? ⟨w.heap.size,9,none⟩=some (.slice (some ⟨K,0,none⟩) r.k.z.size J)/\qdd W w.heap.size 18=true/\rowAt W w.heap.size=D/\W.cell? ⟨G,0,none⟩=some (.int .i64 u.base)/\W.cell? ⟨G,1,none⟩=some (.slice u.r.A u.r.z.size u.r.c)/\W.cell? ⟨G,2,none⟩=some (.slice u.a.A u.a.z.size u.a.c)):=fun W hg=>by
      have e1:W.heap[w.heap.size]?=E.heap[w.heap.size]?:=hg.block _ r0 (by intro e;injection e with e;omega);have e2:W.heap[G]?=E.heap[G]?:=hg.block _ h7 (by intro e;injection e with e;omega);have r1:=e1.trans U.out.row;have r2:=e2.trans f6.out;exact ⟨hg,(vas W _ 9 _ _ (0,0) r1).trans H9.out,qdx r1 c4,qef r1,(vas W _ 0 _ _ (0,0) r2).trans rfl,(vas W _ 1 _ _ (0,0) r2).trans rfl,(vas W _ 2 _ _ (0,0) r2).trans rfl⟩
     rw [hG];go_region_held3 (fun W=>E.grownBy W (some K)/\W.cell? ⟨w.heap.size,9,none⟩=some (.slice (some ⟨K,0,none⟩) r.k.z.size J)/\qdd W w.heap.size 18=true/\rowAt W w.heap.size=D/\W.cell? ⟨G,0,none⟩=some (.int .i64 u.base)/\W.cell? ⟨G,1,none⟩=some (.slice u.r.A u.r.z.size u.r.c)/\W.cell? ⟨G,2,none⟩=some (.slice u.a.A u.a.z.size u.a.c)) (exact KS.out _ (by first | assumption | exact qbf jy _ | exact World.grownBy.trans (World.grownBy.trans (World.grownBy.trans (qbf jN _) (qcs _ _ _ _)) (qcs _ _ _ _)) (qcs _ _ _ _)))
      (first
        | (go_at_call 86;((with_reducible refine (o2.out _ (BW.out _ jy)).mono ?_);rintro e Q ⟨⟨A3,s3,c3,rfl,m3,c1,m6⟩,t⟩;have M:Below E.heap.size E Q:=qaa jy t;have o1:=hI m3;have g3:=hI c1;have o6:=hI m6;clear m3 c1 m6 t))
        | (go_at_call 85;((with_reducible refine (o7.out _ A3 s3 c3 (BW.out _ M) g3.out o6.out).mono ?_);rintro e wb ⟨y,rfl,c6,c7,n2,t⟩;have k6:=hI n2;have b6:Below E.heap.size E wb:=qaa M t;have d8:=hI c6;have b4:=hI c7;clear c6 c7 n2 t;have Z:=hI (l.out.next (BW.out _ b6));have k0:=Z.out.cells H 0 jo;have k1:=Z.out.cells H 1 jo;have k2:=Z.out.cells H 2 jo;rw [HU.out] at k0 k1 k2;simp only [qav,vac,vaf,vak] at k0 k1 k2;have q0:=Z.out.froz (k * 3);have q1:=Z.out.froz (k * 3 + 1);have q2:=Z.out.froz (k * 3 + 2))))
     go_wp2;go_roundw
     case rel =>
      have b9:ChkP kb[k]!.kn:=b0.out.1;have hy:=d8.out;have ho:=o1.out;rw [HE.out] at hy ho;have m0:=set_few b9 hy;exact ⟨k + 1,F.setIfInBounds k y,by go_num,by omega,T.out.put (by rw [L.out.sz];exact i2) ho hy m0.1 m0.2,Z.out.put H b4.out k6.out.far,hI (qya j0.out H k6.out)⟩
     case measure=>simp [intOf];omega
    have r6:decide ((k:Int) < (r.k.z.size:Int))=false:=vab jo;obtain rfl:k=r.k.z.size:=by omega
    have a1:F.size=r.k.z.size:=T.out.sz.trans L.out.sz;have e3:=T.out.chk L.out R.out b1.out HP.out Y.out;have l8:chkR (kR r K J F)=true:=chk_kR R.out a1 e3;have h9:FewC (kR r K J F):=T.out.few L.out R.out b1.out HP.out Y.out;have e8:=(qew R.out).1;have a2:qey r.m.z (r.k.z.size:Int)=true:=by rw [d3.out];exact qex R.out
    have i3:qas (qce F) (r.k.z.size:Int)=0:=qji (by rw [d3.out];exact e8) (by rw [a1]) (fun i X=>e3 i jo);have h8:(qce F).size=r.k.z.size:=(qbm F).trans a1;have V:=l.out.hK;obtain ⟨D,a⟩:∃ c,c=(encP (kR r K J F)).toArray:=⟨_,rfl⟩
    obtain ⟨c4,i4⟩:=rowP a;have j4:Hid (∀ W,Below wr.heap.size wr W->Calls prog 18 #[.agg D] W fun e d=>(∃ (A:Option Addr) (c:Nat),e=.returned (.slice A r.k.z.size c)/\RdI_R d.heap.size d A (qce F))/\Below W.heap.size W d):=fun W b=>by
     have:=qnj (kR r K J F) W ((l.out.next b).rd a7.out) h9
     rw [<-a] at this;refine this.mono fun e d ⟨⟨x,he,I,hr⟩,a0⟩=>?_
     have n1:x.z=qce F:=by rw [I];unfold qee;rw [vam l8];rfl
     refine ⟨⟨x.A,x.c,by rw [he];unfold RW.v;rw [n1,h8],n1 ▸ hr.rd⟩,a0⟩
    have j9:Hid (∀ W (A:Option Addr) (c:Nat),Below wr.heap.size wr W->RdI_R W.heap.size W A (qce F)->Calls prog 31 #[.slice r.m.A r.m.z.size r.m.c,.int .i64 (r.k.z.size:Int),.int .i64 ((p:Int) + 1),.slice A r.k.z.size c] W fun e d=>(∃ y:RW (RW Int),e=.returned (.tuple #[.slice y.A y.z.size y.c,.int .i64 0])/\OwnMM W.heap.size d y/\qoh r.m.z p (qcd r.m.z[p]!.z (qce F)) y.z)/\Below W.heap.size W d):=fun W A c b hr=>by
     have hq:=a7.out.below (qaa l.out.x.b b)
     have:=qpc r.m.A r.m.c r.k.z.size p r.m.z A c (qce F) W ⟨hq.m,hq.mm⟩ a2 Y.out hr i3
     rwa [h8] at this
    have d7:=hI (a ▸ l.out.x:BoxG w w.heap.size D 35 wr);have l3:D[10]?=some (.slice r.m.A r.m.z.size r.m.c):=by rw [a];rfl
    have h0:D[0]?=some (.int .i64 (r.k.z.size:Int)):=by rw [a,d3.out];rfl
    have h2:D[2]?=some (.int .i64 ((p:Int) + 1)):=by rw [a,<-HP.out];rfl
    have e6:=hI l3;have n9:=hI h0;have o0:=hI h2;have e4:=hI a;have s0:=hI e3;have d4:=hI a2;have j3:=hI i3;have e7:=hI a1;have i8:=hI h9;have j2:=hI V;have l6:Below wr.heap.size wr wr:=vag _ _;have KS:Hid (∀ W,Below wr.heap.size wr W->Below wr.heap.size wr W/\W.cell? ⟨w.heap.size,10,none⟩=some (.slice r.m.A r.m.z.size r.m.c)/\W.cell? ⟨w.heap.size,0,none⟩=some (.int .i64 (r.k.z.size:Int))/\W.cell? ⟨w.heap.size,2,none⟩=some (.int .i64 ((p:Int) + 1))/\qdd W w.heap.size 18=true/\rowAt W w.heap.size=D):=fun W b=>by
     have I:=d7.out.next b;exact ⟨b,I.at_ 10 e6.out,I.at_ 0 n9.out,I.at_ 2 o0.out,I.box c4,I.rowAt⟩
    clear a1 e3 l8 h9 e8 a2 i3 h8 V a l3 h0 h2;go_wp2;go_region_held3 (fun W=>Below wr.heap.size wr W/\W.cell? ⟨w.heap.size,10,none⟩=some (.slice r.m.A r.m.z.size r.m.c)/\W.cell? ⟨w.heap.size,0,none⟩=some (.int .i64 (r.k.z.size:Int))/\W.cell? ⟨w.heap.size,2,none⟩=some (.int .i64 ((p:Int) + 1))/\qdd W w.heap.size 18=true/\rowAt W w.heap.size=D) (exact KS.out _ jy)
     (first
       | (go_at_call 18;((with_reducible refine (j4.out _ jy).mono ?_);rintro e Q ⟨⟨A3,c3,rfl,c1⟩,t⟩;have M:Below wr.heap.size wr Q:=qaa jy t;have g3:=hI c1;clear c1 t))
       | (go_at_call 31;((with_reducible refine (j9.out _ A3 c3 M g3.out).mono ?_);rintro e wb ⟨⟨y,rfl,c6,c7⟩,t⟩;have b6:Below wr.heap.size wr wb:=qaa M t;have d8:=hI c6;have b4:=hI c7;clear c6 c7 t)))
    have g6:=hI (d7.out.next b6);have p2:=hI (l.out.z.next b6);have o5:=hI ((l.out.next b6).q (fun i X=>j0.out i (jg e7.out)));have p3:=g6.out.at_ 10 e6.out;have p4:=g6.out.froz 10;have r4:=M.size;go_wp2;have b3:=hI (g6.out.set (vaa _) 10 (.slice y.A y.z.size y.c));have k9:=hI (p2.out.far (g2:=w.heap.size) (vaa _) jo 10 (.slice y.A y.z.size y.c));have j6:=hI ((o5.out.setM d8.out (jg j2.out)).box (W2:=wb.setCell ⟨w.heap.size,10,none⟩ (.slice y.A y.z.size y.c)) (fun j hj=>vbf wb ⟨w.heap.size,10,none⟩ j _ jso) js);have k7:Hid (∀ W,Below (wb.setCell ⟨w.heap.size,10,none⟩ (.slice y.A y.z.size y.c)).heap.size (wb.setCell ⟨w.heap.size,10,none⟩ (.slice y.A y.z.size y.c)) W->RdMM W y):=fun W b=>d8.out W (fun j hj hl=>(b.block j (by simpa using hl)).trans (vbf wb ⟨w.heap.size,10,none⟩ j _ (by have:=j2.out;simp;omega))) (by simpa using b.size)
    obtain ⟨h6,b8⟩:∃ c,c=(encP { kR r K J F with m:=y }).toArray:=⟨_,rfl⟩
    have q:D.setIfInBounds 10 (.slice y.A y.z.size y.c)=h6:=by rw [e4.out,b8];rfl
    rw [q] at b3;obtain ⟨w5,m8⟩:∃ W,W=wb.setCell ⟨w.heap.size,10,none⟩ (.slice y.A y.z.size y.c):=⟨_,rfl⟩
    rw [<-m8] at b3 k9 j6 k7 |-
    have e5:=hI b8;have i9:Hid (∀ W,Below w5.heap.size w5 W->Calls prog 87 #[.slice y.A y.z.size y.c,.int .i64 (r.k.z.size:Int),.int .i64 ((p:Int) + 1)] W fun e d=>e=.returned (.int .i64 (qcl (colM y.z p)))/\Below W.heap.size W d):=fun W b =>
     qvs y.A y.c r.k.z.size p y.z W (k7.out W b) (qti d4.out (qfn ((qci.1 d4.out).2.2 p (by have:=(qci.1 d4.out).2.1;have:=Y.out;omega)) j3.out) b4.out) Y.out
    have d9:Hid (∀ W,Below w5.heap.size w5 W->W.cell? ⟨w.heap.size,5,none⟩=some (.int .i64 r.floor)/\W.cell? ⟨w.heap.size,10,none⟩=some (.slice y.A y.z.size y.c)/\W.cell? ⟨w.heap.size,0,none⟩=some (.int .i64 (r.k.z.size:Int))/\W.cell? ⟨w.heap.size,2,none⟩=some (.int .i64 ((p:Int) + 1))/\W.cell? ⟨w.heap.size,3,none⟩=some (.int .i64 r.clock)):=fun W b=>by
     have I:=b3.out.next b;have z:h6=_:=e5.out;refine ⟨I.at_ 5 (by rw [z];rfl),I.at_ 10 (by rw [z];rfl),I.at_ 0 (by rw [z,d3.out];rfl),I.at_ 2 (by rw [z,<-HP.out];rfl),I.at_ 3 (by rw [z];rfl)⟩
    clear p3 p4 q m8 b8 j4 j9;refine qct (S:=fun W=>W.cell? ⟨w.heap.size,5,none⟩=some (.int .i64 r.floor)/\W.cell? ⟨w.heap.size,10,none⟩=some (.slice y.A y.z.size y.c)/\W.cell? ⟨w.heap.size,0,none⟩=some (.int .i64 (r.k.z.size:Int))/\W.cell? ⟨w.heap.size,2,none⟩=some (.int .i64 ((p:Int) + 1))/\W.cell? ⟨w.heap.size,3,none⟩=some (.int .i64 r.clock)) jk ?_;have P:=d9.out w5.drew (vag _ _).drew;refine tkG 77 0 P ?_ (ha:=tzq);refine tkG 78 1 P ?_ (ha:=tzq);refine tkG 79 2 P ?_ (ha:=tzq);refine tkG 80 3 P ?_ (ha:=tzq);refine tkG 81 4 P ?_ (ha:=tzq);refine tkG 82 5 P ?_ (ha:=tzq);refine tkG 83 6 P ?_ (ha:=tzq);refine tkG 84 7 P ?_ (ha:=tzq);refine tkG 86 9 P ?_ (ha:=tzq);refine tkG 87 10 P ?_ (ha:=tzq);refine qdt (rs:=[8]) jk js (AllReadyE.cons rfl (fun K' b5=>?_) AllReadyE.nil);go_simp;refine (i9.out _ (vag _ _).drew).mono ?_;rintro e w6 ⟨rfl,l7⟩;have a6:Hid (Below w5.heap.size w5 w6):=hI (qaa (vag _ _).drew l7);clear l7;refine b5.out _ _ (d9.out _ a6.out) (fun _=>?_);clear b5 K' P;have P:=d9.out w6 a6.out;refine tkG 88 11 P ?_ (ha:=tzq);refine tkG 89 12 P ?_ (ha:=tzq);refine tkG 90 13 P ?_ (ha:=tzq);have p8:=P;have f5:=(b3.out.next a6.out).froz 5;have c5:=P.1;refine qdt (rs:=[14]) jk js (AllReadyE.last rfl jk (fun K' b5=>?_));go_simp;refine b5.out _ _ ?_;clear b5 K' c5 f5;refine qbw jk ?_ _;have o8:=hI (b3.out.next a6.out);have o9:=hI (k9.out.next a6.out);have o3:=hI (j6.out.next a6.out);obtain ⟨ff,i0⟩:∃ f,max r.floor (min (qcl (colM y.z p)) r.clock)=f:=⟨_,rfl⟩
    rw [i0];have n7:=hI i0;have a8:=hI (o8.out.set (vaa _) 5 (.int .i64 ff));have g8:=hI (o9.out.far (g2:=w.heap.size) (vaa _) jo 5 (.int .i64 ff));have j7:=hI ((o3.out.setF ff).box (W2:=w6.setCell ⟨w.heap.size,5,none⟩ (.int .i64 ff)) (fun j hj=>vbf w6 ⟨w.heap.size,5,none⟩ j _ jso) js);obtain ⟨l2,b7⟩:∃ c,c=(encP { kR r K J F with m:=y,floor:=ff }).toArray:=⟨_,rfl⟩
    have q:h6.setIfInBounds 5 (.int .i64 ff)=l2:=by rw [e5.out,b7];rfl
    rw [q] at a8;obtain ⟨w7,m9⟩:∃ W,W=w6.setCell ⟨w.heap.size,5,none⟩ (.int .i64 ff):=⟨_,rfl⟩
    rw [<-m9] at a8 g8 j7 |-
    have d0:=hI b7;have l1:=g8.out.lt;clear m9 q b7 i0 p8 P i9 d9;have c8:=a8.out.at_ 8 (v:=.slice r.o.A r.o.z.size r.o.c) (by rw [d0.out];rfl);have c5:=a8.out.at_ 5 (v:=.int .i64 ff) (by rw [d0.out];rfl);have j8:Hid (Calls prog 88 #[.slice r.o.A r.o.z.size r.o.c,.int .i64 ff] w7 fun e d=>∃ (Ao:Option Addr) (co:Nat) (zo:Array (Int×Int)),e=.returned (.slice Ao zo.size co)/\zo=qnl r.o.z ff/\RdN qae 2 d ⟨Ao,co,zo⟩/\(∀ g i6,Ao=some ⟨g,i6,none⟩->w7.heap.size<=g)/\Below w7.heap.size w7 d) :=
     (qvt r.o.A r.o.c r.o.z ff w7 (a7.out.below a8.out.b).o.rd (jg b1.out.o)).mono fun e d ⟨⟨⟨Ao,co,zo⟩,h1,h2,h3,h4⟩,h5⟩=>⟨Ao,co,zo,h1,h2,h3,h4,h5⟩
    go_wp2_with fail;refine j8.out.mono ?_;rintro _ w8 ⟨Ao,co,zo,rfl,n3,m4,l9,e0⟩;have g5:=hI (a8.out.next e0);have p0:=hI (g8.out.next e0);have o4:=hI ((j7.out.next e0).setO m4 (fun g i6 e=>vax jo (l9 g i6 e)));have p1:=hI n3;have c8:=g5.out.at_ 8 (v:=.slice r.o.A r.o.z.size r.o.c) (by rw [d0.out];rfl);have f8:=g5.out.froz 8;have d6:=hI (g5.out.set (vaa _) 8 (.slice Ao zo.size co));have l0:=hI (p0.out.far (g2:=w.heap.size) (vaa _) jo 8 (.slice Ao zo.size co));obtain ⟨g9,a4⟩:∃ c,c=(encP { kR r K J F with m:=y,floor:=ff,o:=⟨Ao,co,zo⟩ }).toArray:=⟨_,rfl⟩
    have q:l2.setIfInBounds 8 (.slice Ao zo.size co)=g9:=by rw [d0.out,a4];rfl
    rw [q] at d6;obtain ⟨f0,q4⟩:=rowP a4;have n5:=hI a4;have x1:=d6.out.box f0;have x2:=d6.out.rowAt;have x3:=l0.out.box (n:=18) rfl;clear a4 q e0 m4 l9 n3 c5 j8 j3 d4;go_wp2;refine vau (qch rfl rfl (vbz _ _ _ _ _ _ l0.out.row) f0) rfl ?_;have p9:Below w.heap.size w ((w8.setCell ⟨w.heap.size,8,none⟩ (.slice Ao zo.size co)).setRow (w.heap.size + 1) g9):=d6.out.b.trans ⟨rfl,rfl,rfl,by simp,fun j hj=>vbg _ _ j _ jo⟩;have q6:=o4.out.sep (W2:=(w8.setCell ⟨w.heap.size,8,none⟩ (.slice Ao zo.size co)).setRow (w.heap.size + 1) g9) js (fun j hj hl=>(vbg _ _ j _ jo).trans (vbf w8 ⟨w.heap.size,8,none⟩ j _ jso));refine ⟨⟨_,by rw [<-n5.out],⟨rfl,e7.out,fun i X=>?_,b4.out.1,fun i X=>?_,?_,p1.out⟩,q6⟩,p9⟩
    .obtain ⟨⟨r3,h1,h2⟩,_⟩:=T.out.lo i X (by rw [L.out.sz];exact X)
     refine ⟨kb[i]!.kn,r3,?_,h1,h2⟩;by_cases N:i=p
     .rw [vam (by rw [HP.out,N]),N]
      exact L.out.me
     rw [vao (by rw [HP.out];omega),L.out.oth i X N]
    .rw [b4.out.2 i X]
     by_cases N:i=p
     .rw [vam N,vam (by rw [HP.out,N]),N];rfl
     rw [vao N,vao (by rw [HP.out];omega)]
    rw [show r.self.toNat - 1=p by rw [HP.out];omega];exact n7.out.symm
 exact i1 _ z
