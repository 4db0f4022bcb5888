/- Texts that the law leans on. -/
import Derived.BigGuardPart
import Derived.Test.YtlkmagmdhopcjaaGreatMStV
import Derived.Test.YtlkmagmdhopcjaaGreatMKnP
import Derived.Test.YtlkmagmdhopcjaaGreatMClkB
import Derived.Test.YtlkmagmdhopcjaaGreatMIdentB
import Derived.Test.YtlkmagmdhopcjaaGreatMErrA
import Derived.Test.YtlkmagmdhopcjaaGreatMStG
import Derived.Test.YtlkmagmdhopcjaaGreatMDelA
namespace Go.Proofs.YtlkmagmdhopcjaaGreat
open Go.RowKit Go.Sort Go.Lib
set_option maxRecDepth 100000
theorem qws (a:Int×Int) (id:Int) (g:Nat) (w:World) (hg:w.cell? ⟨g,0,none⟩=some (.int .i64 id)) :
 Calls Tryz.prog 316 #[.agg (qaf a).toArray,.pointer (some ⟨g,0,none⟩)] w fun e w'=>e=.returned (.bool (decide (a.2=id)))∧Below w.heap.size w w':=by
 have hlt:=qff hg
 have hc:∀ o,(w.alloc o).cell? ⟨g,0,none⟩=some (.int .i64 id):=fun o=>(World.cell?_alloc_lt w _ _ hlt).trans hg
 have HB:=hI (fun o=>bel1 w o)
 have hgd:=qxh
 have heq:=fun W=>eqA_run a (a.1,id) W
 have HD:Hid (decide (a=(a.1,id))=decide (a.2=id)):=by
  show _=_
  obtain ⟨x,y⟩:=a
  simp
 obtain ⟨D,hD⟩:∃ D,decide (a=(a.1,id))=D:=⟨_,rfl⟩
 rw [hD] at heq HD
 clear hD
 simp only [qaf]
 go_enter Tryz.func316,Tryz.ntmps316
 go_wp2
 go_ret
 exact ⟨qac HD.out,HB.out _⟩
theorem qlm (id:Int) (w:World) :
 Calls Tryz.prog 296 #[.int .i64 id] w fun e w'=>e=.returned (.func (.func 316) #[] #[.pointer (some ⟨w.heap.size,0,none⟩)])∧w'=w.alloc (.cells #[.int .i64 id] 3):=by
 have hmf:∀ (fn:Fn) (first cap:Array Value) (w:World),(Instr.makeFunc fn first cap).run Tryz.prog w=.ok (.func fn first cap) w:=fun _ _ _ _=>rfl
 go_enter Tryz.func296,Tryz.ntmps296
 go_wp2
 go_ret
 exact ⟨rfl,rfl⟩
def clkX (now:Int) (own:Array (Int×Int)) (id least:Int):Int:=if own.toList.any (fun a=>decide (a.2=id))=true then 41 else if 1000000 < max least (now + 1) then 9 else 0
set_option maxHeartbeats 8000000 in
theorem qst (A:Option Addr) (c:Nat) (own:Array (Int×Int)) (now id least:Int) (w:World) (h:RdK qaf 2 w.heap.size w A own) (hs:own.size≤1000) (hc:clkB now 0 own=true) (hi:10≤id∧id≤999999∧id % 10≠0) (hl:0≤least∧least≤1000000) :
 Calls Tryz.prog 270 #[.int .i64 now,.slice A own.size c,.int .i64 id,.int .i64 least] w fun e w' =>
  (∃ (y:RW (Int×Int)) (t:Int),e=.returned (.tuple #[.int .i64 t,.slice y.A y.z.size y.c,.int .i64 (clkX now own id least)])∧(clkX now own id least=0→t=max least (now + 1)∧y.z=own.push (t,id)∧RdN qaf 2 w' y∧FreshA w.heap.size y.A))∧Below w.heap.size w w':=by
 obtain ⟨j0,hj0,hy0,hy1,hy2⟩:=info_parts qka
 have hnow:=(qir.1 hc).1
 have HCk:Hid (∀ W,Below w.heap.size w W→Calls Tryz.prog 121 #[.int .i64 now,.int .i64 0,.slice A own.size c] W fun e w'=>e=.returned (.int .i64 0)∧Below W.heap.size W w'):=fun W hb=>by
  have:=clk_any now 0 A c own W ((h.below hb).mono hb.size) (by omega)
  rwa [show clkE now 0 own=0 by unfold clkE;rw [if_pos hc]] at this
 have HId:Hid (∀ W,Calls Tryz.prog 130 #[.int .i64 id] W fun e w'=>e=.returned (.int .i64 0)∧W=w'):=fun W=>by
  have:=qcb id W
  rwa [show qef id=0 by unfold qef;rw [if_neg (by omega)]] at this
 have HCo:Hid (∀ W,Below w.heap.size w W→Calls Tryz.prog 148 #[.slice A own.size c,.func (.func 316) #[] #[.pointer (some ⟨W.heap.size,0,none⟩)]] (W.alloc (.cells #[.int .i64 id] 3)) fun e w'=>e=.returned (.bool (own.toList.any fun a=>decide (a.2=id)))∧Below (W.alloc (.cells #[.int .i64 id] 3)).heap.size (W.alloc (.cells #[.int .i64 id] 3)) w'):=fun W hb =>
  ContA (fun a=>decide (a.2=id)) 316 #[.pointer (some ⟨W.heap.size,0,none⟩)] A c own _ ((h.below (qab hb _)).mono (qab hb _).size) (by omega) (enters_of Tryz.func316 (by kernel_rfl) rfl)
   (fun W' x hbW=>(qws x id W.heap.size W' ((hbW.cell (p:=⟨W.heap.size,0,none⟩) (by simp)).trans (by simp))).mono fun _ _ ⟨he,hb'⟩=>⟨he,hbW.trans (hb'.mono hbW.size)⟩)
 have HCl:Hid (∀ W,Below w.heap.size w W→Calls Tryz.prog 65 #[.slice A own.size c] W fun e w'=>(∃ v,e=.returned v∧w'.ownsRow W.heap.size 29 2 v own.size (flatK qaf 2 own).toList)∧Below W.heap.size W w'):=fun W hb =>
  (qfx A c own W ((h.below hb).mono hb.size) (by omega)).mono fun e w' ⟨v,he,ho,hb2⟩=>⟨⟨v,he,ho⟩,hb2⟩
 have HPX:Hid (clkX now own id least=if own.toList.any (fun a=>decide (a.2=id))=true then 41 else if 1000000 < max least (now + 1) then 9 else 0):=rfl
 have HFL:Hid (∀ t,(flatK qaf 2 (own.push (t,id))).toList=(flatK qaf 2 own).toList ++ [.int .i64 t,.int .i64 id]):=fun t=>qbm (enc:=qaf) (k:=2) (fun _=>rfl) own (t,id)
 obtain ⟨X,hX⟩:∃ X,clkX now own id least=X:=⟨_,rfl⟩
 obtain ⟨B,hB⟩:∃ B,own.toList.any (fun a=>decide (a.2=id))=B:=⟨_,rfl⟩
 rw [hX] at HPX ⊢
 rw [hB] at HPX HCo
 obtain ⟨T,hT⟩:∃ T,max least (now + 1)=T:=⟨_,rfl⟩
 rw [hT] at HPX ⊢
 have hw1:IntKind.i64.wrap (now + 1)=now + 1:=IntWalk.i64_in _ (by omega)
 have hl0:decide (least < 0)=false:=decide_eq_false (by omega)
 have hl1:decide (1000000 < least)=false:=decide_eq_false (by omega)
 have hsz:=hs
 clear h hc hX hB hnow hi
 cases B
 ·by_cases hbig:1000000 < T
  ·have HX9:Hid (X=9):=by show _=_;rw [HPX.out,if_neg (by decide),if_pos hbig]
   have hb':decide (1000000 < T)=true:=decide_eq_true hbig
   go_enter Tryz.func270,Tryz.ntmps270
   go_wp2_with (first
    | (go_at_call 121;refine (HCk.out _ (Below.refl _ _)).mono ?_;rintro _ w1 ⟨rfl,hb⟩;have HB1:=hI hb;clear hb)
    | (go_at_call 130;refine (HId.out _).mono ?_;rintro _ _ ⟨rfl,rfl⟩)
    | (go_at_call 296;refine (qlm id w1).mono ?_;rintro _ _ ⟨rfl,rfl⟩)
    | (go_at_call 148;refine (HCo.out w1 HB1.out).mono ?_;rintro _ w2 ⟨rfl,hb⟩;have HB2:=hI (qaa (qab HB1.out _) hb);clear hb))
   go_ret3
   exact ⟨⟨⟨none,0,#[]⟩,0,by rw [HX9.out];rfl,fun h=>absurd (HX9.out.symm.trans h) (by decide)⟩,HB2.out⟩
  ·have HX0:Hid (X=0):=by show _=_;rw [HPX.out,if_neg (by decide),if_neg hbig]
   have hb':decide (1000000 < T)=false:=decide_eq_false hbig
   go_enter Tryz.func270,Tryz.ntmps270
   go_wp2_with (first
    | (go_at_call 121;refine (HCk.out _ (Below.refl _ _)).mono ?_;rintro _ w1 ⟨rfl,hb⟩;have HB1:=hI hb;clear hb)
    | (go_at_call 130;refine (HId.out _).mono ?_;rintro _ _ ⟨rfl,rfl⟩)
    | (go_at_call 296;refine (qlm id w1).mono ?_;rintro _ _ ⟨rfl,rfl⟩)
    | (go_at_call 148;refine (HCo.out w1 HB1.out).mono ?_;rintro _ w2 ⟨rfl,hb⟩;have HB2:=hI (qaa (qab HB1.out _) hb);clear hb)
    | (go_at_call 65;refine (HCl.out _ HB2.out).mono ?_;rintro _ w3 ⟨⟨v,rfl,hv⟩,hb⟩;have hown:=qdh hv HB2.out.size;have HB3:=hI (qaa HB2.out hb);have hb3s:=HB3.out.size;clear hb hv)
    | (at_builtin;refine wpList_append_own _ rfl _ _ 23 rfl w.heap.size 29 j0 (.agg #[.int .i64 0,.int .i64 0]) 2 16 Tryz.underlying23 hj0 hy0 hy1 hy2 rfl (by decide) _ _ _ rfl (World.ownsRow.alloc hown _) ⟨w3.heap.size,0,none⟩ 1 1 [.int .i64 T,.int .i64 id] rfl rfl (qes w3 _ _ _) (by simp [Value.oneCell']) (by unfold maxLen;omega) (by omega) (by simp;omega) ?_;intro v' w4 hown4 hgrow _;have HB4:=hI (qfm HB3.out hown hgrow)))
   go_ret3
   have ho:w4.ownsRow w.heap.size 29 2 v' (own.push (T,id)).size (flatK qaf 2 (own.push (T,id))).toList:=by rw [HFL.out];simpa using hown4
   obtain ⟨A',c',rfl,hr,hn,hf⟩:=qdj ho
   exact ⟨⟨⟨A',c',own.push (T,id)⟩,T,by rw [HX0.out];rfl,fun _=>⟨rfl,rfl,⟨hr,hn⟩,hf⟩⟩,HB4.out⟩
 ·have HX41:Hid (X=41):=by show _=_;rw [HPX.out,if_pos rfl]
  go_enter Tryz.func270,Tryz.ntmps270
  go_wp2_with (first
   | (go_at_call 121;refine (HCk.out _ (Below.refl _ _)).mono ?_;rintro _ w1 ⟨rfl,hb⟩;have HB1:=hI hb;clear hb)
   | (go_at_call 130;refine (HId.out _).mono ?_;rintro _ _ ⟨rfl,rfl⟩)
   | (go_at_call 296;refine (qlm id w1).mono ?_;rintro _ _ ⟨rfl,rfl⟩)
   | (go_at_call 148;refine (HCo.out w1 HB1.out).mono ?_;rintro _ w2 ⟨rfl,hb⟩;have HB2:=hI (qaa (qab HB1.out _) hb);clear hb))
  go_ret3
  exact ⟨⟨⟨none,0,#[]⟩,0,by rw [HX41.out];rfl,fun h=>absurd (HX41.out.symm.trans h) (by decide)⟩,HB2.out⟩
end Go.Proofs.YtlkmagmdhopcjaaGreat
namespace Go.Proofs.YtlkmagmdhopcjaaGreat
open Go.RowKit Go.Sort Go.Lib
def e12:EN:=⟨12,1,6,0,0,0,0,0,⟨#[]⟩,none,0,#[]⟩
structure PrbR (s:RP):Prop where
 h:s.n=3∧s.f=1∧s.self=2∧s.seq=0∧s.floor=0∧s.ticks=0∧s.lt=0∧s.lid=0∧s.count=0
 c:0≤s.clock∧s.clock≤1000000
 e:s.e.z=#[]∨s.e.z=#[e12]
 o:s.o.z=#[]
 k:s.k.z.size=3∧∀ i,i < 3→s.k.z[i]!.kn=⟨0,#[],#[]⟩
 m:NewM 3 s.m.z
 fr:s.fr.z=#[0,0,0]
 d:s.d.z.size=3∧∀ i,i < 3→s.d.z[i]!.z=#[]∨s.d.z[i]!.z=#[(1,1)]
 it:s.it.z=#[]
 ss:s.ss.z=#[]
theorem e12_chk:chkT #[e12]=true∧qcp e12=true∧putC #[] e12=0∧putS #[] e12=#[e12]∧fewT #[e12]=true∧qbe 12=2∧qid 12=1:=⟨by decide,by decide,by decide,rfl,by decide,by decide,by decide⟩
theorem rng11:qam #[(1,1)]=0∧qig #[(1,1)]=false∧qig #[]=false∧qam #[]=0∧qbx #[(1,1)] 1=true∧qbx #[] 1=false∧chkB ⟨0,#[],#[]⟩=true∧qas (List.replicate 3 0).toArray 3=0∧qas #[0,0,0] 3=0:=by decide
theorem PrbR.chk {s:RP} (h:PrbR s):chkR s=true:=by
 obtain ⟨h1,h2,h3,h4,h5,h6,h7,h8,h9⟩:=h.h
 obtain ⟨t1,t2,t3,t4,t5,t6,t7⟩:=e12_chk
 obtain ⟨u1,u2,u3,u4,u5,u6,u7,u8,u9⟩:=rng11
 have a1:qkb s=true:=by
  have hc:clkB s.clock s.floor s.o.z=true:=qir.2 ⟨by rw [h5];have:=h.c;omega,fun i hi=>by rw [h.o] at hi;exact absurd hi (Nat.not_lt_zero i)⟩
  unfold qkb
  rw [hc,h1,h2,h3,h4,h6,h9]
  decide
 have a2:qxq s=true:=by
  unfold qxq
  rcases h.e with he | he
  ·rw [show anyN s.e.z.size (farB s)=false from qgi.2 fun j hj=>by rw [he] at hj;exact absurd hj (Nat.not_lt_zero j),he]
   decide
  ·rw [show anyN s.e.z.size (farB s)=false from qgi.2 fun j hj=>by
    rw [he] at hj
    obtain rfl:j=0:=by simpa using hj
    unfold farB
    rw [he,h1]
    decide,he,t1]
   rfl
 have a3:qoe s=true:=by
  unfold qoe
  rw [h.k.1,h1,show anyN 3 (fun i=>!chkB s.k.z[i]!.kn)=false from qgi.2 fun j hj=>by rw [h.k.2 j hj,u7];rfl,h.fr,u9,
   show qfk s.m.z 3=true from qbv.2 ⟨by decide,by rw [h.m.1];rfl,fun i hi=>by rw [h.m.1] at hi;rw [h.m.2 i hi];exact u8⟩]
  decide
 have a4:finB s=true:=by
  unfold finB
  rw [h.d.1,h1,h7,h8,show anyN 3 (fun i=>qig s.d.z[i]!.z)=false from qgi.2 fun j hj=>by rcases h.d.2 j hj with e | e <;> rw [e] <;> assumption]
  decide
 unfold chkR
 rw [a1,a2,a3,a4]
 rfl
theorem PrbR.few {s:RP} (h:PrbR s):FewP s where
 e:=by rcases h.e with e | e <;> rw [e] <;> decide
 o:=by rw [h.o];exact Nat.zero_le _
 k:=by rw [h.k.1];decide
 m:=qgp.2 ⟨by rw [h.m.1];decide,fun i hi=>by rw [h.m.1] at hi;rw [h.m.2 i hi];decide⟩
 fr:=by rw [h.fr];decide
 d:=by rw [h.d.1];decide
 kk:=fun i hi=>by rw [h.k.1] at hi;rw [h.k.2 i hi];rfl
 dd:=fun i hi=>by rw [h.d.1] at hi;rcases h.d.2 i hi with e | e <;> rw [e] <;> decide
 it:=by rw [h.it];exact Nat.zero_le _
 ss:=by rw [h.ss];exact Nat.zero_le _
theorem PrbR.put {s:RP} (h:PrbR s) {y:RW EN} (hy:y.z=#[e12]):PrbR { s with e:=y } :=
 ⟨h.h,h.c,Or.inr hy,h.o,h.k,h.m,h.fr,h.d,h.it,h.ss⟩
theorem bas3 {k:Array KE} {a b c:Int} (hs:k.size=3) (h0:k[0]!.base=a) (h1:k[1]!.base=b) (h2:k[2]!.base=c):qcy k=#[a,b,c]:=by
 apply Array.ext (by rw [qax,hs];rfl)
 intro i hi hj
 have hi':i < 3:=by simpa using hj
 have e:=qfp k (j:=i) (by omega)
 rw [getElem!_pos _ i hi] at e
 rw [e]
 rcases (show i=0∨i=1∨i=2 by omega) with rfl | rfl | rfl
 ·exact h0
 ·exact h1
 ·exact h2
theorem setBs (b:Int) (ids:Array Int):SetR ⟨b,#[],#[]⟩ ids ⟨b,#[],#[]⟩:=by
 refine ⟨#[],⟨NL.lit (by decide),fun n=>?_⟩,by decide,⟨rfl,?_,rfl⟩⟩
 ·rw [Bool.eq_iff_iff,qmc]
  simp [inR]
 ·refine ⟨fun _=>IsN.fit ⟨NL.lit (d:=#[]) (by decide),fun n=>?_⟩ (Nat.zero_le _),fun h=>absurd (by decide:qam #[]=0) h⟩
  rw [Bool.eq_iff_iff];unfold qpu inR;simp
theorem pr_marks (s:RP) (cs:Array Value) (hcs:cs=(encP s).toArray) (hf:FewC s) (d:Array Int) (hd:qeh s=d) (W:World) (hr:RdP W s) :
 Calls Tryz.prog 18 #[.agg cs] W fun e w'=>∃ (A:Option Addr) (c:Nat),e=.returned (.slice A d.size c)∧RdI_R w'.heap.size w' A d∧Below W.heap.size W w':=by
 subst hcs
 refine (qix s W hr hf).mono ?_
 rintro e w' ⟨⟨x,e1,e2,e3⟩,hb⟩
 obtain ⟨A,c,z⟩:=x
 have e2':z=d:=(show z=qeh s from e2).trans hd
 subst e2'
 exact ⟨A,c,e1,e3.rd,hb⟩
theorem sameLit (W:World) (A:Option Addr) (c:Nat) (d:Array Int) (cs:Array Value) (h:RdI_R W.heap.size W A d) (hcs:cs=d.map qcv) (hd:d.size≤1000) :
 Calls Tryz.prog 24 #[.slice A d.size c,.slice (some ⟨W.heap.size,0,none⟩) d.size d.size] (W.alloc (.cells cs 3)) fun e w'=>e=.returned (.bool true)∧Below (W.alloc (.cells cs 3)).heap.size (W.alloc (.cells cs 3)) w' :=
 (qnq A (some ⟨W.heap.size,0,none⟩) c d.size d d _ _ _ (h.alloc (Nat.le_refl _) _) (RdI_R.lit_K W d cs 3 hcs) (by omega)).mono fun e w' ⟨he,n,hw⟩=>⟨by rw [he];simp,hw ▸ qbc (Below.refl _ _) n⟩
end Go.Proofs.YtlkmagmdhopcjaaGreat
