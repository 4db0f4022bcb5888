/- Texts that the law leans on. -/
import Derived.Test.YtlkmagmdhopcjaaGreatMOpenK
import Derived.Test.YtlkmagmdhopcjaaGreatMStC
import Derived.Test.YtlkmagmdhopcjaaGreatMStD
import Derived.Test.YtlkmagmdhopcjaaGreatMStE
import Derived.Test.YtlkmagmdhopcjaaGreatMVoA
import Derived.Test.YtlkmagmdhopcjaaGreatMDelA
import Derived.Test.YtlkmagmdhopcjaaGreatMStI
import Derived.Test.YtlkmagmdhopcjaaGreatMTbB
import Derived.Test.YtlkmagmdhopcjaaGreatMRangesM
import Derived.Test.YtlkmagmdhopcjaaGreatMIdentB
import Derived.Test.YtlkmagmdhopcjaaGreatMRead
import Derived.Test.YtlkmagmdhopcjaaGreatShelf
import Derived.Test.YtlkmagmdhopcjaaGreatMOwnK
import Derived.Test.YtlkmagmdhopcjaaGreatMDelN
import Derived.Test.YtlkmagmdhopcjaaGreatMTbH
namespace Go.Proofs.YtlkmagmdhopcjaaGreat
open Go.RowKit Go.Sort Go.Lib
set_option maxRecDepth 100000
theorem qkr (n f:Int) (w:World) (hf:f≤9):Calls Tryz.prog 143 #[.int .i64 n,.int .i64 f] w fun e w'=>e=.returned (.int .i64 (qmg n f))∧w=w':=by
 have h1:1≤f→3≤n→n≤9→True:=fun _ _ _=>trivial
 go_enter Tryz.func143,Tryz.ntmps143
 go_wp2
 all_goals
  go_ret
  refine ⟨qan ?_,rfl⟩
  unfold qmg qer
  first
   | exact (if_pos (show 3≤n∧n≤9∧1≤f∧2 * f≤n - 1 by omega)).symm
   | exact (if_neg (show ¬ (3≤n∧n≤9∧1≤f∧2 * f≤n - 1) by omega)).symm
def qna (n f:Int):Int:=if qer n f then n / 2 + f else 0
def slowN (n f:Int):Int:=if qer n f then f + 1 else 0
def backN (n f:Int):Int:=if qer n f then n - f else 0
theorem szRef_any (n f:Int) (w:World):Calls Tryz.prog 59 #[.int .i64 n,.int .i64 f] w fun e w'=>e=.returned (.tuple #[.int .i64 (qna n f),.int .i64 (slowN n f),.int .i64 (backN n f)])∧w=w':=by
 have hb:=qod n f
 have HF:Hid (qna n f=if qer n f then n / 2 + f else 0):=hI rfl
 have HS:Hid (slowN n f=if qer n f then f + 1 else 0):=hI rfl
 have HB:Hid (backN n f=if qer n f then n - f else 0):=hI rfl
 by_cases h:qer n f
 ·rw [if_pos h] at HF HS HB
  have h9:decide (9 < f)=false:=by unfold qer at h;simp;omega
  rw [decide_eq_true h] at hb
  unfold qer at h
  obtain ⟨a,b,c,d⟩:=h
  go_enter Tryz.func59,Tryz.ntmps59
  go_wp2_with (go_at_call 143;refine (qkr _ _ _ (by omega)).mono ?_;rintro _ _ ⟨rfl,rfl⟩)
  go_ret3
  exact ⟨by rw [HF.out,HS.out,HB.out];rfl,rfl⟩
 ·rw [if_neg h] at HF HS HB
  rw [decide_eq_false h] at hb
  clear h
  by_cases h9:9 < f
  ·have h9':decide (9 < f)=true:=decide_eq_true h9
   go_enter Tryz.func59,Tryz.ntmps59
   go_wp2
   go_ret3
   exact ⟨by rw [HF.out,HS.out,HB.out];rfl,rfl⟩
  ·have h9':decide (9 < f)=false:=decide_eq_false h9
   go_enter Tryz.func59,Tryz.ntmps59
   go_wp2_with (go_at_call 143;refine (qkr _ _ _ (by omega)).mono ?_;rintro _ _ ⟨rfl,rfl⟩)
   go_ret3
   exact ⟨by rw [HF.out,HS.out,HB.out];rfl,rfl⟩
theorem qug (n f:Int):qna n f≠0↔qer n f:=by
 unfold qna
 by_cases h:qer n f
 ·rw [if_pos h];unfold qer at h ⊢;constructor
  ·intro _;exact h
  ·intro _;omega
 ·rw [if_neg h];simp [h]
theorem set_last {d:Array (Int×Int)} (h:qam d=0):(∀ j,j < d.size→d[j]!.2≤99999)↔¬ (0 < d.size∧99999 < d[d.size - 1]!.2):=by
 have hn:=NL.of_set h
 constructor
 ·rintro g ⟨h0,h1⟩
  have:=g (d.size - 1) (by omega)
  omega
 ·intro g j hj
  rcases Nat.lt_or_ge j (d.size - 1) with hlt | hge
  ·have hp:=List.pairwise_iff_getElem.1 hn.2 j (d.size - 1) (by simpa using hj) (by simp;omega) hlt
   have hm:=hn.1 (d[d.size - 1]!) (by rw [getElem!_pos d (d.size - 1) (by omega)];simp)
   rw [getElem!_pos d j hj]
   rw [getElem!_pos d (d.size - 1) (by omega)] at hm g
   simp only [Array.getElem_toList] at hp
   have:¬ 99999 < d[d.size - 1].2:=fun h=>g ⟨by omega,h⟩
   omega
  ·obtain rfl:j=d.size - 1:=by omega
   have:¬ 99999 < d[d.size - 1]!.2:=fun h=>g ⟨by omega,h⟩
   omega
theorem qyp (d:Array (Int×Int)):qig d=false↔qam d=0∧∀ j,j < d.size→d[j]!.2≤99999:=by
 unfold qig
 by_cases h:qam d=0
 ·rw [set_last h]
  simp [h]
 ·have hb:(qam d != 0)=true:=bne_iff_ne.2 h
  simp [h,hb]
theorem qgi {n:Nat} {p:Nat→Bool}:anyN n p=false↔∀ j,j < n→p j=false:=by
 constructor
 ·intro h j hj
  cases hp:p j
  ·rfl
  ·rw [qlc j hj hp] at h;cases h
 ·exact qpo
theorem qbi (r:RP):chkR r=true↔RckA r (qna r.n r.f) (clkE r.clock r.floor r.o.z) (tabE r.e.z) (qfb r.m.z r.n) (qas r.fr.z r.n)∧RckB r (fun i=>chkE r.k.z[i]!.kn) (fun i=>qam r.d.z[i]!.z)∧RckC r:=by
 have h1:=qug r.n r.f
 have h2:clkE r.clock r.floor r.o.z=0↔clkB r.clock r.floor r.o.z=true:=by unfold clkE;cases clkB r.clock r.floor r.o.z <;> simp
 have h3:tabE r.e.z=0↔chkT r.e.z=true:=by unfold tabE;cases chkT r.e.z <;> simp
 have h4:qfb r.m.z r.n=0↔qfk r.m.z r.n=true:=by unfold qfb;cases qfk r.m.z r.n <;> simp
 have h5:∀ k:KN,chkE k=0↔chkB k=true:=fun k=>by unfold chkE;cases chkB k <;> simp
 unfold chkR qkb qxq qoe finB RckA RckB RckC lastB
 simp only [Bool.and_eq_true,decide_eq_true_eq,Bool.not_eq_true',qgi,farB,decide_eq_false_iff_not,qyp,Bool.not_eq_false',h1,h2,h3,h4,h5]
 constructor
 ·rintro ⟨⟨⟨⟨⟨⟨a,b⟩,c⟩,d⟩,e,f⟩,⟨⟨g,i⟩,j⟩,k⟩,⟨l,m⟩,n⟩
  exact ⟨⟨a,b.1,b.2,d,c.1,c.2.1,c.2.2.1,c.2.2.2.1,c.2.2.2.2.1,c.2.2.2.2.2,e,g,j,k,l⟩,⟨fun q hq=>Int.not_lt.1 (f q hq),fun q hq=>⟨i q hq,(m q (by omega)).1,(m q (by omega)).2⟩⟩,n⟩
 ·rintro ⟨⟨a,b1,b2,d,c1,c2,c3,c4,c5,c6,e,g,j,k,l⟩,⟨f,i⟩,n⟩
  exact ⟨⟨⟨⟨⟨⟨a,b1,b2⟩,c1,c2,c3,c4,c5,c6⟩,d⟩,e,fun q hq=>Int.not_lt.2 (f q hq)⟩,⟨⟨g,fun q hq=>(i q hq).1⟩,j⟩,k⟩,⟨l,fun q hq=>(i q (by omega)).2⟩,n⟩
theorem qcw {r:RP} (h:chkR r=true):repE r=0:=by unfold repE;rw [if_pos h]
theorem qhj {r:RP} (h:¬ chkR r=true):repE r=2:=by unfold repE;rw [if_neg h]
theorem qbh (r:RP) (w:World) (h:RdP w r) (hf:FewC r) :
 Calls Tryz.prog 15 #[.agg (encP r).toArray] w fun e w'=>e=.returned (.int .i64 (repE r))∧Below w.heap.size w w' :=
 qsf r w _ _ _ _ (fun W hb=>qxs r W (h.below hb) (by have:=hf.o;omega)) (fun W hb=>cmds_any r W (h.below hb) hf) (fun W hb=>hears_any r W (h.below hb) hf) (fun W hb=>fin_any r W (h.below hb) hf)
theorem few25_any (r:RP) (w:World) (h:RdP w r) :
 Calls Tryz.prog 6 #[.agg (encP r).toArray] w fun e w'=>e=.returned (.bool (fewR r))∧Below w.heap.size w w':=by
 have hi:fewR r=true↔(FewA r (fewT r.e.z) (fewM r.m.z)∧(∀ i,i < r.k.z.size→fewK r.k.z[i]!.kn=true)∧(∀ i,i < r.d.z.size→r.d.z[i]!.z.size≤100)∧r.it.z.size≤60∧r.ss.z.size≤60):=by
  rw [qpn]
  exact ⟨fun h=>⟨⟨h.e,h.o,h.k,h.m,h.fr,h.d⟩,h.kk,h.dd,h.it,h.ss⟩,fun ⟨⟨a,b,c,d,e,f⟩,g,i,j,k⟩=>⟨a,b,c,d,e,f,g,i,j,k⟩⟩
 refine qyo r w (fewT r.e.z) (fewM r.m.z) (fun i=>fewK r.k.z[i]!.kn) (fewR r) h.k.rd h.d.rd ?_ ?_ ?_ ?_ ?_ ?_ ?_
 ·exact fun W hb=>few21_any _ _ _ W (h.e.below hb)
 ·exact fun W hb=>few18_any _ _ _ W (h.m.below hb).rd
 ·exact fun i hi W hb=>Few16_any _ _ W ((h.kk i hi).below hb).knV
 ·intro a b c
  by_cases hd:r.it.z.size≤60∧r.ss.z.size≤60
  ·rw [decide_eq_true hd];exact hi.2 ⟨a,b,c,hd⟩
  ·rw [decide_eq_false hd];exact Bool.eq_false_iff.2 fun h=>hd (hi.1 h).2.2.2
 ·exact fun a=>Bool.eq_false_iff.2 fun h=>a (hi.1 h).1
 ·exact fun a=>Bool.eq_false_iff.2 fun h=>a (hi.1 h).2.1
 ·exact fun a=>Bool.eq_false_iff.2 fun h=>a (hi.1 h).2.2.1
theorem chkR_d {r:RP} (h:chkR r=true):(r.d.z.size:Int)=r.n:=((qbi r).1 h).1.2.2.2.2.2.2.2.2.2.2.2.2.2.2
end Go.Proofs.YtlkmagmdhopcjaaGreat
namespace Go.Proofs.YtlkmagmdhopcjaaGreat
open Go.RowKit Go.Sort Go.Lib
set_option maxRecDepth 100000
def sameM (m1 m2:Array (RW Int)):Bool:=allN m1.size m2.size fun i=>decide (m1[i]!.z=m2[i]!.z)
def sameD (m1 m2:Array (RW (Int×Int))):Bool:=allN m1.size m2.size fun i=>decide (m1[i]!.z=m2[i]!.z)
def sameKs (m1 m2:Array KE):Bool:=allN m1.size m2.size fun i=>sameK m1[i]!.kn m2[i]!.kn
def qwc (a b:RP):Bool:=decide (sameH a b) && (sameT a.e.z b.e.z && decide (a.o.z=b.o.z) && sameKs a.k.z b.k.z && sameM a.m.z b.m.z && decide (a.fr.z=b.fr.z) && sameD a.d.z b.d.z)
end Go.Proofs.YtlkmagmdhopcjaaGreat
namespace Go.Proofs.YtlkmagmdhopcjaaGreat
open Go.RowKit Go.Sort Go.Lib
structure NewR (n f me:Int) (N:Nat) (s:RP):Prop where
 h:s.n=n∧s.f=f∧s.self=me∧s.clock=0∧s.seq=0∧s.floor=0∧s.ticks=0∧s.lt=0∧s.lid=0∧s.count=0
 e:s.e.z=#[]
 o:s.o.z=#[]
 k:s.k.z.size=N∧∀ i,i < N→s.k.z[i]!.kn=⟨0,#[],#[]⟩
 m:NewM N s.m.z
 fr:s.fr.z=(List.replicate N 0).toArray
 d:s.d.z.size=N∧∀ i,i < N→s.d.z[i]!.z=#[]
 it:s.it.z=#[]
 ss:s.ss.z=#[]
def rp0:RP:=⟨0,0,0,0,0,0,0,⟨none,0,#[]⟩,⟨none,0,#[]⟩,⟨none,0,#[]⟩,⟨none,0,#[]⟩,⟨none,0,#[]⟩,⟨none,0,#[]⟩,0,0,0,⟨none,0,#[]⟩,⟨none,0,#[]⟩⟩
theorem newR_none:NewR 0 0 0 0 rp0 :=
 ⟨⟨rfl,rfl,rfl,rfl,rfl,rfl,rfl,rfl,rfl,rfl⟩,rfl,rfl,⟨rfl,fun i hi=>absurd hi (Nat.not_lt_zero i)⟩,⟨rfl,fun i hi=>absurd hi (Nat.not_lt_zero i)⟩,rfl,⟨rfl,fun i hi=>absurd hi (Nat.not_lt_zero i)⟩,rfl,rfl⟩
theorem NewR.same {n f self:Int} {k:Nat} {a b:RP} (h:NewR n f self k a) (g:NewR n f self k b):qwc a b=true:=by
 obtain ⟨h1,h2,h3,h4,h5,h6,h7,h8,h9,h10⟩:=h.h
 obtain ⟨g1,g2,g3,g4,g5,g6,g7,g8,g9,g10⟩:=g.h
 have e0:decide (sameH a b)=true:=decide_eq_true ⟨by rw [h1,g1],by rw [h2,g2],by rw [h3,g3],by rw [h4,g4],by rw [h5,g5],by rw [h6,g6],by rw [h7,g7],by rw [h8,g8],by rw [h9,g9],by rw [h10,g10]⟩
 have e1:sameT a.e.z b.e.z=true:=by rw [h.e,g.e];exact qyz _
 have e2:sameKs a.k.z b.k.z=true:=qhs (by rw [h.k.1,g.k.1]) fun i hi=>by
  rw [h.k.1] at hi
  rw [h.k.2 i hi,g.k.2 i hi];exact qxt _
 have e3:sameM a.m.z b.m.z=true:=qhs (by rw [h.m.1,g.m.1]) fun i hi=>by
  rw [h.m.1] at hi
  rw [h.m.2 i hi,g.m.2 i hi];exact decide_eq_true rfl
 have e4:sameD a.d.z b.d.z=true:=qhs (by rw [h.d.1,g.d.1]) fun i hi=>by
  rw [h.d.1] at hi
  rw [h.d.2 i hi,g.d.2 i hi];exact decide_eq_true rfl
 unfold qwc
 rw [e0,e1,e2,e3,e4,h.o,g.o,h.fr,g.fr]
 simp
theorem NewR.few {n f self:Int} {k:Nat} {a:RP} (h:NewR n f self k a) (hk:k≤20):FewP a where
 e:=by rw [h.e];rfl
 o:=by rw [h.o];exact Nat.zero_le _
 k:=by rw [h.k.1];exact hk
 m:=qgp.2 ⟨by rw [h.m.1];exact hk,fun i hi=>by rw [h.m.1] at hi;rw [h.m.2 i hi];simpa using hk⟩
 fr:=by rw [h.fr];simpa using hk
 d:=by rw [h.d.1];exact hk
 kk:=fun i hi=>by rw [h.k.1] at hi;rw [h.k.2 i hi];rfl
 dd:=fun i hi=>by rw [h.d.1] at hi;rw [h.d.2 i hi];exact Nat.zero_le _
 it:=by rw [h.it];exact Nat.zero_le _
 ss:=by rw [h.ss];exact Nat.zero_le _
def newP (n f self:Int):Prop:=qer n f∧1≤self∧self≤n
instance (n f self:Int):Decidable (newP n f self):=by unfold newP qer;infer_instance
def NewQ (n f self:Int) (e:Ending) (w':World):Prop:=∃ s:RP,e=.returned (.tuple #[.agg (encP s).toArray,.int .i64 (if newP n f self then 0 else 2)])∧(if newP n f self then NewR n f self n.toNat s else NewR 0 0 0 0 s)∧RdP w' s
theorem qfz {α:Type} [Inhabited α] (en:α→List Value) (k:Nat) (w:World):RdW en k w ⟨none,0,#[]⟩:=⟨fun h=>absurd h (Nat.not_lt_zero _),Nat.le_refl _,fun _=>rfl⟩
theorem qle {α:Type} [Inhabited α] (en:α→List Value) (k:Nat) (w:World):RdN en k w ⟨none,0,#[]⟩:=⟨fun h=>absurd h (Nat.not_lt_zero _),fun _=>rfl⟩
theorem rdJ_none (w:World):RdJ w ⟨none,0,#[]⟩:=⟨fun h=>absurd h (by decide),Nat.le_refl _,fun _=>rfl⟩
theorem rdP_none (w:World):RdP w rp0 where
 e:=⟨fun h=>absurd h (Nat.not_lt_zero _),fun i hi=>absurd hi (Nat.not_lt_zero i)⟩
 o:=qle _ _ _
 k:=qfz _ _ _
 kk:=fun i hi=>absurd hi (Nat.not_lt_zero i)
 m:=qfz _ _ _
 mm:=fun i hi=>absurd hi (Nat.not_lt_zero i)
 fr:=rdJ_none _
 d:=qfz _ _ _
 dd:=fun i hi=>absurd hi (Nat.not_lt_zero i)
 it:=qfz _ _ _
 ss:=qfz _ _ _
theorem newQ_none {n f self:Int} (h:¬ newP n f self) (w:World):NewQ n f self (.returned (.tuple #[.agg #[.int .i64 0,.int .i64 0,.int .i64 0,.int .i64 0,.int .i64 0,.int .i64 0,.int .i64 0,.slice none 0 0,.slice none 0 0,.slice none 0 0,.slice none 0 0,.slice none 0 0,.slice none 0 0,.int .i64 0,.int .i64 0,.int .i64 0,.slice none 0 0,.slice none 0 0],.int .i64 2])) w :=
 ⟨rp0,by rw [if_neg h];rfl,by rw [if_neg h];exact newR_none,rdP_none w⟩
theorem qfj {enc:Int×Int→List Value} (he:∀ x,∃ a b:Int,enc x=[.int .i64 a,.int .i64 b]) {W W':World} {B K:Nat} {ks:Array KE} (hH:∀ t,t < ks.size * 3→W.cell? ⟨K,t,none⟩=some (flatK qaz 3 ks)[t]!) {A:Option Addr} {d:Array (Int×Int)} (h:RdK enc 2 B W A d) {i:Nat} (hi:i < ks.size) (hW:∀ b t,(b≠K∨t < i * 3∨i * 3 + 3≤t)→W'.cell? ⟨b,t,none⟩=W.cell? ⟨b,t,none⟩):RdK enc 2 B W' A d:=by
 have hint:∀ t,t < d.size * 2→∃ a:Int,(flatK enc 2 d)[t]! = .int .i64 a:=by
  intro t ht
  have hj:t / 2 < d.size:=by omega
  obtain ⟨a,b,e⟩:=he d[t / 2]!
  have:=qhi enc 2 d (t / 2) (t % 2) hj (by omega)
  rw [show t / 2 * 2 + t % 2=t by omega,e] at this
  rcases Nat.mod_two_eq_zero_or_one t with h0 | h0 <;> rw [h0] at this
  ·exact ⟨a,this⟩
  ·exact ⟨b,this⟩
 have hkind:∀ t,t < ks.size * 3→∀ a:Int,W.cell? ⟨K,t,none⟩=some (.int .i64 a)→t % 3=0:=by
  intro t ht a ha
  rw [hH t ht] at ha
  injection ha with ha
  have hj:t / 3 < ks.size:=by omega
  have:=qhi qaz 3 ks (t / 3) (t % 3) hj (by omega)
  rw [show t / 3 * 3 + t % 3=t by omega,ha] at this
  have h3:t % 3=0∨t % 3=1∨t % 3=2:=by omega
  rcases h3 with h0 | h0 | h0
  ·exact h0
  ·rw [h0] at this;cases this
  ·rw [h0] at this;cases this
 intro h0
 obtain ⟨b,off,e,hlt,hc⟩:=h h0
 refine ⟨b,off,e,hlt,fun t ht=>?_⟩
 rw [hW b (off + t) ?_]
 ·exact hc t ht
 ·refine Classical.byContradiction fun hn=>?_
  have hb:b=K:=Classical.byContradiction fun h=>hn (Or.inl h)
  have h1:i * 3≤off + t:=Nat.le_of_not_lt fun h=>hn (Or.inr (Or.inl h))
  have h2:off + t < i * 3 + 3:=Nat.lt_of_not_le fun h=>hn (Or.inr (Or.inr h))
  subst hb
  have hx:∀ s,s < d.size * 2→off + s < ks.size * 3→(off + s) % 3=0:=fun s hs hs3=>by
   obtain ⟨a,ea⟩:=hint s hs
   exact hkind _ hs3 a (by rw [←ea];exact hc s hs)
  have k1:=hx t ht (by omega)
  rcases Nat.mod_two_eq_zero_or_one t with p0 | p0
  ·have:=hx (t + 1) (by omega) (by omega)
   omega
  ·have:=hx (t - 1) (by omega) (by omega)
   omega
theorem qnb (x:Int×Int):∃ a b:Int,encR x=[.int .i64 a,.int .i64 b]:=⟨_,_,rfl⟩
theorem qnc (x:Int×Int):∃ a b:Int,qaf x=[.int .i64 a,.int .i64 b]:=⟨_,_,rfl⟩
end Go.Proofs.YtlkmagmdhopcjaaGreat
namespace Go.Proofs.YtlkmagmdhopcjaaGreat
open Go.RowKit Go.Sort Go.Lib
set_option maxRecDepth 100000
theorem qaq (a0 a1 a2 a3 a4 a5 a6 a13 a14 a15:Int) (A7 A8 A9 A10 A11 A12 A16 A17:Option Addr) (n7 c7 n8 c8 n9 c9 n10 c10 n11 c11 n12 c12 n16 c16 n17 c17:Nat):qbt #[.int .i64 a0,.int .i64 a1,.int .i64 a2,.int .i64 a3,.int .i64 a4,.int .i64 a5,.int .i64 a6,.slice A7 n7 c7,.slice A8 n8 c8,.slice A9 n9 c9,.slice A10 n10 c10,.slice A11 n11 c11,.slice A12 n12 c12,.int .i64 a13,.int .i64 a14,.int .i64 a15,.slice A16 n16 c16,.slice A17 n17 c17]=true:=by simp [qbt,Value.oneCell']
theorem qbd (a0 a1 a2 a3 a4 a5 a6 a13 a14 a15:Int) (A7 A8 A9 A10 A11 A12 A16 A17:Option Addr) (n7 c7 n8 c8 n9 c9 n10 c10 n11 c11 n12 c12 n16 c16 n17 c17:Nat):(#[.int .i64 a0,.int .i64 a1,.int .i64 a2,.int .i64 a3,.int .i64 a4,.int .i64 a5,.int .i64 a6,.slice A7 n7 c7,.slice A8 n8 c8,.slice A9 n9 c9,.slice A10 n10 c10,.slice A11 n11 c11,.slice A12 n12 c12,.int .i64 a13,.int .i64 a14,.int .i64 a15,.slice A16 n16 c16,.slice A17 n17 c17]:Array Value).size=18:=rfl
theorem qaj (W:World) (g:Nat) (cs:Array Value) (h:qap W g 18=true) (hc:cs.size=18) (h1:qbt cs=true) :
 (qgx 35 (.pointer (some ⟨g,0,none⟩)) (.agg cs)).run Tryz.prog W=.ok () (W.setRow g cs):=by
 obtain ⟨t,h2,h3⟩:=qey h
 simp only [qgx,Instr.storeAt,Instr.sureAddr,Sem.run_bind,Sem.run_pure,Result.andThen]
 exact run_storeVar_row W g t 35 _ cs h2 (by rw [hc];kernel_rfl) (by rw [h3,hc]) h1
theorem qah (W:World) (g:Nat) (zs cs:Array Value) (hg:W.heap.size=g) (hz:zs.size=18) (hc:cs.size=18) (h1:qbt cs=true) :
 (qgx 35 (.pointer (some ⟨g,0,none⟩)) (.agg cs)).run Tryz.prog (W.alloc (.cells zs 35))=.ok () (W.alloc (.cells cs 35)):=qdn W g zs cs hg hz hc h1
theorem qfo {W:World} {g:Nat} {cs:Array Value} {T:TypeId} (h:W.heap[g]?=some (.cells cs T (0,0))) (hc:cs.size=18):(loadVar 35 ⟨g,0,none⟩).run Tryz.prog W=.ok (.agg cs) W :=
 run_loadVar_row W g T 35 cs (0,0) _ h Tryz.underlying35 rfl (by rw [hc];kernel_rfl)
theorem qds {fn:Func} {t:Tmp} (hf:fn.results=#[.cell t 35]) {tm:Array Value} {W:World} {g:Nat} {cs:Array Value} {T:TypeId} (hg:tm.getD t undef=.pointer (some ⟨g,0,none⟩)) (h:W.heap[g]?=some (.cells cs T (0,0))) (hc:cs.size=18):(results fn tm).run Tryz.prog W=.ok (.agg cs) W:=by
 have hg2:tm[t]?.getD undef=.pointer (some ⟨g,0,none⟩):=by rw [←Array.getD_eq_getD_getElem?];exact hg
 simp [results,hf,hg2,asAddr,qfo h hc]
theorem qav {fn:Func} {t u:Tmp} (hf:fn.results=#[.cell t 35,.tmp u]) {tm:Array Value} {W:World} {g:Nat} {cs:Array Value} {T:TypeId} (hg:tm.getD t undef=.pointer (some ⟨g,0,none⟩)) (h:W.heap[g]?=some (.cells cs T (0,0))) (hc:cs.size=18):(results fn tm).run Tryz.prog W=.ok (.tuple #[.agg cs,tm.getD u undef]) W:=by
 have hg2:tm[t]?.getD undef=.pointer (some ⟨g,0,none⟩):=by rw [←Array.getD_eq_getD_getElem?];exact hg
 simp [results,hf,hg2,asAddr,qfo h hc]
theorem qwd:(Tryz.prog.info? 66).map (fun i=>(i.zero,i.size,i.bytes))=some (some (.agg #[.int .i64 0,.slice none 0 0,.slice none 0 0]),3,56):=by kernel_rfl
theorem rngs_info:(Tryz.prog.info? 64).map (fun i=>(i.zero,i.size,i.bytes))=some (some (.slice none 0 0),1,24):=by kernel_rfl
def ke0:KE:=⟨0,⟨none,0,#[]⟩,⟨none,0,#[]⟩⟩
def kes (n:Nat):Array KE:=(List.replicate n ke0).toArray
def rws (n:Nat):Array (RW (Int×Int)):=(List.replicate n ⟨none,0,#[]⟩).toArray
theorem qqc {α:Type} [Inhabited α] (n i:Nat) (x:α) (h:i < n):((List.replicate n x).toArray)[i]! = x:=by
 rw [getElem!_pos _ i (by simpa using h)]
 simp
attribute [local go_sem ↓] qak qai
attribute [local go_sem] qao qaj qah qaq qbd
end Go.Proofs.YtlkmagmdhopcjaaGreat
namespace Go.Proofs.YtlkmagmdhopcjaaGreat
open Go.RowKit Go.Sort Go.Lib
set_option maxRecDepth 100000
attribute [local go_sem ↓] qak qai
attribute [local go_sem] qao qaj qah qaq qbd
theorem kes_succ (k:Nat):kes (k + 1)=(kes k).push ke0:=by
 unfold kes
 rw [List.replicate_succ',List.push_toArray]
theorem rws_succ (k:Nat):rws (k + 1)=(rws k).push ⟨none,0,#[]⟩:=by
 unfold rws
 rw [List.replicate_succ',List.push_toArray]
theorem qqd (k:Nat):(kes k).size=k:=by simp [kes]
theorem qqe (k:Nat):(rws k).size=k:=by simp [rws]
def nbC (N:Nat) (f me:Int) (vK vM vF vD:Value):Array Value:=#[.int .i64 (N:Int),.int .i64 f,.int .i64 me,.int .i64 0,.int .i64 0,.int .i64 0,.int .i64 0,.slice none 0 0,.slice none 0 0,vK,vM,vF,vD,.int .i64 0,.int .i64 0,.int .i64 0,.slice none 0 0,.slice none 0 0]
structure NewW (g B:Nat) (w w1:World) (zs0:Array Value) (N:Nat) (f me:Int) (vM:Value) (vK:Value) (kK:Nat) (vF:Value) (kF:Nat) (vD:Value) (kD:Nat) (W:World):Prop where
 row:W.heap[g]?=some (.cells (nbC N f me vK vM vF vD) 35 (0,0))
 res:W.heap[w.heap.size]?=some (.cells zs0 35 (0,0))
 oK:W.ownsRow B 66 3 vK kK (flatK qaz 3 (kes kK)).toList
 oF:W.ownsRow B 3 1 vF kF ((zs kF).map (Value.int .i64))
 oD:W.ownsRow B 64 1 vD kD (flatK encW 1 (rws kD)).toList
 kp:∀ j,g < j→j < B→W.heap[j]?=w1.heap[j]?
 b:Below w.heap.size w W
 sz:B≤W.heap.size
 hg:w.heap.size < g
 gB:g < B
section
variable {g B:Nat} {w w1:World} {zs0:Array Value} {N:Nat} {f me:Int} {vM vK vF vD:Value} {kK kF kD:Nat} {W w3:World}
theorem NewW.cell (h:NewW g B w w1 zs0 N f me vM vK kK vF kF vD kD W) (j:Nat) {u:Value} (hj:(nbC N f me vK vM vF vD)[j]?=some u):W.cell? ⟨g,j,none⟩=some u:=by
 rw [cell_of_row W g j _ _ (0,0) h.row];exact hj
theorem NewW.froz (h:NewW g B w w1 zs0 N f me vM vK kK vF kF vD kD W) (j:Nat):W.frozen? ⟨g,j,none⟩=false:=by
 have:=h.row
 simp [World.frozen?,this]
theorem NewW.grow (h:NewW g B w w1 zs0 N f me vM vK kK vF kF vD kD W) {o:Obj} {v:Value} {e:TypeId} {s n:Nat} {xs:List Value} (hv:W.ownsRow B e s v n xs) (hg:(W.alloc o).grownBy w3 v.ownBlock) :
 w3.heap[g]?=some (.cells (nbC N f me vK vM vF vD) 35 (0,0))∧w3.heap[w.heap.size]?=some (.cells zs0 35 (0,0))∧(∀ j,g < j→j < B→w3.heap[j]?=w1.heap[j]?)∧Below w.heap.size w w3∧B≤w3.heap.size:=by
 have hlt:=hv.lt
 have key:∀ j,j < B→w3.heap[j]?=W.heap[j]?:=fun j hj=>by
  have hs:=h.sz
  rw [hg.block j (by simp;omega) (fun he=>by have:=(hlt j he.symm).1;omega)]
  exact heap_alloc_old W o (by omega)
 have h1:=h.hg
 have h2:=h.gB
 refine ⟨(key g h2).trans h.row,(key _ (by omega)).trans h.res,fun j a b=>(key j b).trans (h.kp j a b),⟨hg.os.trans h.b.os,hg.tape.trans h.b.tape,hg.output.trans h.b.output,?_,fun j hj=>(key j (by omega)).trans (h.b.block j hj)⟩,?_⟩
 ·have:=hg.size
  have:=h.b.size
  simp at *
  omega
 ·have:=hg.size
  have:=h.sz
  simp at *
  omega
theorem NewW.alloc (h:NewW g B w w1 zs0 N f me vM vK kK vF kF vD kD W) (o:Obj):NewW g B w w1 zs0 N f me vM vK kK vF kF vD kD (W.alloc o) :=
 ⟨qcj h.row,qcj h.res,h.oK.alloc o,h.oF.alloc o,h.oD.alloc o,fun j a b=>(heap_alloc_old W o (by have:=h.sz;omega)).trans (h.kp j a b),qab h.b o,by have:=h.sz;simp;omega,h.hg,h.gB⟩
theorem qcx {e:TypeId} {s n:Nat} {v:Value} {xs:List Value} (h:W.ownsRow B e s v n xs) (hg:g < B) (j:Nat) (u:Value):(W.setCell ⟨g,j,none⟩ u).ownsRow B e s v n xs :=
 qdz h (Nat.le_refl _) (fun i hi _=>heap_setCell_other W ⟨g,j,none⟩ i u (by simp;omega))
theorem NewW.putK (h:NewW g B w w1 zs0 N f me vM vK kK vF kF vD kD W) {o:Obj} {v':Value} (hg:(W.alloc o).grownBy w3 vK.ownBlock) (ho:w3.ownsRow B 66 3 v' (kK + 1) ((flatK qaz 3 (kes kK)).toList ++ [.int .i64 0,.slice none 0 0,.slice none 0 0])) :
 NewW g B w w1 zs0 N f me vM v' (kK + 1) vF kF vD kD (w3.setCell ⟨g,9,none⟩ v'):=by
 obtain ⟨h1,h2,h3,h4,h5⟩:=h.grow h.oK hg
 have hgB:=h.gB
 have hwg:=h.hg
 refine ⟨heap_setCell_same w3 g 9 _ _ v' h1,(heap_setCell_other w3 ⟨g,9,none⟩ _ v' (by simp;omega)).trans h2,qcx ?_ hgB 9 v',qcx (qdy (h.oK.alloc o) (h.oF.alloc o) (by decide) hg) hgB 9 v',qcx (qdy (h.oK.alloc o) (h.oD.alloc o) (by decide) hg) hgB 9 v',
  fun j a b=>(heap_setCell_other w3 ⟨g,9,none⟩ j v' (by simp;omega)).trans (h3 j a b),h4.setCell (p:=⟨g,9,none⟩) (by simp;omega) v',by simpa using h5,hwg,hgB⟩
 rw [kes_succ,qbm qmp]
 exact ho
theorem NewW.putF (h:NewW g B w w1 zs0 N f me vM vK kK vF kF vD kD W) {o:Obj} {v':Value} (hg:(W.alloc o).grownBy w3 vF.ownBlock) (ho:w3.ownsRow B 3 1 v' (kF + 1) ((zs kF).map (Value.int .i64) ++ [.int .i64 0])) :
 NewW g B w w1 zs0 N f me vM vK kK v' (kF + 1) vD kD (w3.setCell ⟨g,11,none⟩ v'):=by
 obtain ⟨h1,h2,h3,h4,h5⟩:=h.grow h.oF hg
 have hgB:=h.gB
 have hwg:=h.hg
 refine ⟨heap_setCell_same w3 g 11 _ _ v' h1,(heap_setCell_other w3 ⟨g,11,none⟩ _ v' (by simp;omega)).trans h2,qcx (qdy (h.oF.alloc o) (h.oK.alloc o) (by decide) hg) hgB 11 v',qcx ?_ hgB 11 v',qcx (qdy (h.oF.alloc o) (h.oD.alloc o) (by decide) hg) hgB 11 v',
  fun j a b=>(heap_setCell_other w3 ⟨g,11,none⟩ j v' (by simp;omega)).trans (h3 j a b),h4.setCell (p:=⟨g,11,none⟩) (by simp;omega) v',by simpa using h5,hwg,hgB⟩
 rw [zs_succ,List.map_append]
 exact ho
theorem NewW.putD (h:NewW g B w w1 zs0 N f me vM vK kK vF kF vD kD W) {o:Obj} {v':Value} (hg:(W.alloc o).grownBy w3 vD.ownBlock) (ho:w3.ownsRow B 64 1 v' (kD + 1) ((flatK encW 1 (rws kD)).toList ++ [.slice none 0 0])) :
 NewW g B w w1 zs0 N f me vM vK kK vF kF v' (kD + 1) (w3.setCell ⟨g,12,none⟩ v'):=by
 obtain ⟨h1,h2,h3,h4,h5⟩:=h.grow h.oD hg
 have hgB:=h.gB
 have hwg:=h.hg
 refine ⟨heap_setCell_same w3 g 12 _ _ v' h1,(heap_setCell_other w3 ⟨g,12,none⟩ _ v' (by simp;omega)).trans h2,qcx (qdy (h.oD.alloc o) (h.oK.alloc o) (by decide) hg) hgB 12 v',qcx (qdy (h.oD.alloc o) (h.oF.alloc o) (by decide) hg) hgB 12 v',qcx ?_ hgB 12 v',
  fun j a b=>(heap_setCell_other w3 ⟨g,12,none⟩ j v' (by simp;omega)).trans (h3 j a b),h4.setCell (p:=⟨g,12,none⟩) (by simp;omega) v',by simpa using h5,hwg,hgB⟩
 rw [rws_succ,qbm qpv]
 exact ho
end
theorem qks {w:World} {B s n:Nat} {e:TypeId} {v:Value} {xs:List Value} (h:w.ownsRow B e s v n xs):∃ A c,v=.slice A n c:=by
 obtain ⟨_,⟨e,h0⟩ | ⟨_,_,_,e,_⟩⟩:=h
 ·exact ⟨none,0,by rw [h0];exact e⟩
 ·exact ⟨_,_,e⟩
theorem NewW.done {g B:Nat} {w w1 W W':World} {zs0:Array Value} {N:Nat} {f me:Int} {vM vK vF vD:Value} (hp:newP (N:Int) f me) (h:NewW g B w w1 zs0 N f me vM vK N vF N vD N W) (hB:B≤w1.heap.size) (hm:OwnZ (g + 1) w1 vM N) (hm2:w1.heap.size≤B) (ho:∀ j,g < j→W'.heap[j]?=W.heap[j]?) :
 NewQ (N:Int) f me (.returned (.tuple #[.agg (nbC N f me vK vM vF vD),.int .i64 0])) W':=by
 have hgB:=h.gB
 obtain ⟨xK,eK,zK,rK⟩:=qdq (d:=kes N) (en:=qaz) (by rw [qqd];exact qdz (W:=W') h.oK (B0:=g + 1) (by omega) (fun j hj _=>ho j (by omega)))
 obtain ⟨xF,eF,zF,rF⟩:=qdr (l:=zs N) (by rw [zs_len];exact qdz (W:=W') h.oF (B0:=g + 1) (by omega) (fun j hj _=>ho j (by omega)))
 obtain ⟨xD,eD,zD,rD⟩:=qdq (d:=rws N) (en:=encW) (by rw [qqe];exact qdz (W:=W') h.oD (B0:=g + 1) (by omega) (fun j hj _=>ho j (by omega)))
 obtain ⟨xM,eM,zM,rM⟩:=(hm.same (W:=W') (fun j hj hl=>(ho j (by omega)).trans (h.kp j (by omega) (by omega)))).rd
 subst eK eF eD eM
 refine ⟨⟨(N:Int),f,me,0,0,0,0,⟨none,0,#[]⟩,⟨none,0,#[]⟩,xK,xM,xF,xD,0,0,0,⟨none,0,#[]⟩,⟨none,0,#[]⟩⟩,?_,?_,?_⟩
 ·rw [if_pos hp]
  rfl
 ·rw [if_pos hp,Int.toNat_natCast]
  refine ⟨⟨rfl,rfl,rfl,rfl,rfl,rfl,rfl,rfl,rfl,rfl⟩,rfl,rfl,?_,zM,zF,?_,rfl,rfl⟩
  ·show xK.z.size=N∧∀ i,i < N→xK.z[i]!.kn=_
   rw [zK]
   exact ⟨qqd N,fun i hi=>by rw [show (kes N)[i]! = ke0 from qqc N i _ hi];rfl⟩
  ·show xD.z.size=N∧∀ i,i < N→xD.z[i]!.z=_
   rw [zD]
   exact ⟨qqe N,fun i hi=>by rw [show (rws N)[i]! = ⟨none,0,#[]⟩ from qqc N i _ hi]⟩
 ·refine ⟨⟨fun h=>absurd h (Nat.not_lt_zero _),fun i hi=>absurd hi (Nat.not_lt_zero i)⟩,qle _ _ _,rK,fun i hi=>?_,rM.1,rM.2,rF,rD,fun i hi=>?_,qfz _ _ _,qfz _ _ _⟩
  ·have hi':i < xK.z.size:=hi
   show RdKE W' xK.z[i]!
   rw [zK] at hi' ⊢
   rw [qqd] at hi'
   rw [show (kes N)[i]! = ke0 from qqc N i _ hi']
   exact ⟨qle _ _ _,qle _ _ _⟩
  ·have hi':i < xD.z.size:=hi
   show RdW encR 2 W' xD.z[i]!
   rw [zD] at hi' ⊢
   rw [qqe] at hi'
   rw [show (rws N)[i]! = ⟨none,0,#[]⟩ from qqc N i _ hi']
   exact qfz _ _ _
theorem three_one (w:World) (a b:Array Value) (t u:TypeId) (_:True):((w.alloc (.cells a t)).alloc (.cells b u)).heap[w.heap.size]?=some (.cells a t (0,0)):=qcj (heap_alloc_new w _)
theorem three_two (w:World) (a b:Array Value) (t u:TypeId) (_:True):((w.alloc (.cells a t)).alloc (.cells b u)).heap[w.heap.size + 1]?=some (.cells b u (0,0)):=heap_alloc2_new w _ _
theorem qwe (W:World) (a:Addr) (v:Value) (l:List Value) (t:TypeId) (s:Nat) (hs:(W.setCell a v).heap.size=s):∀ j u,l[j]?=some u→((W.setCell a v).alloc (.cells l.toArray t)).cell? ((⟨s,0,none⟩:Addr).add j)=some u:=hs ▸ newL _ _ _
theorem own_k0 (W:World) (B:Nat):W.ownsRow B 66 3 (.slice none 0 0) 0 (flatK qaz 3 (kes 0)).toList:=by
 have e:kes 0=#[]:=rfl
 rw [e]
 exact qci _ _ _ _ _
theorem own_d0 (W:World) (B:Nat):W.ownsRow B 64 1 (.slice none 0 0) 0 (flatK encW 1 (rws 0)).toList:=by
 have e:rws 0=#[]:=rfl
 rw [e]
 exact qci _ _ _ _ _
def qbp:Array Value:=#[.int .i64 0,.int .i64 0,.int .i64 0,.int .i64 0,.int .i64 0,.int .i64 0,.int .i64 0,.slice none 0 0,.slice none 0 0,.slice none 0 0,.slice none 0 0,.slice none 0 0,.slice none 0 0,.int .i64 0,.int .i64 0,.int .i64 0,.slice none 0 0,.slice none 0 0]
set_option maxHeartbeats 16000000 in
theorem qyq (n f me:Int) (w:World):Calls Tryz.prog 23 #[.int .i64 n,.int .i64 f,.int .i64 me] w fun e w'=>NewQ n f me e w'∧Below w.heap.size w w':=by
 have hE:=qug n f
 have HSZ:=hI (fun W=>szRef_any n f W)
 by_cases hP:newP n f me
 ·obtain ⟨h1,h2,h3⟩:=hP
  have h1':=h1
  unfold qer at h1'
  have HP:Hid (newP n f me):=⟨h1,h2,h3⟩
  have e0:(qna n f == 0)=false:=beq_eq_false_iff_ne.2 (hE.2 h1)
  obtain ⟨N,rfl⟩:∃ N:Nat,n=(N:Int):=⟨n.toNat,by omega⟩
  have hN9:N≤9:=by omega
  have HN:=hI (fun W=>rSwNew_ok N W (by omega) (by omega))
  have e2:decide (me < 1)=false:=decide_eq_false (by omega)
  have e3:decide ((N:Int) < me)=false:=decide_eq_false (by omega)
  generalize qna (N:Int) f=z1 at HSZ e0
  generalize slowN (N:Int) f=z2 at HSZ
  generalize backN (N:Int) f=z3 at HSZ
  clear h1 h1' h2 h3 hE
  go_enter Tryz.func23,Tryz.ntmps23
  go_wp2_with (first
   | (go_at_call 59;refine (HSZ.out _).mono ?_;rintro _ _ ⟨rfl,rfl⟩)
   | (go_at_call 60;refine (HN.out _).mono ?_;rintro _ w1 ⟨⟨vM,rfl,ho⟩,hb⟩;have HO:=hI ho;have HB:=hI hb;obtain ⟨AM,cM,rfl⟩:∃ A c,vM=.slice A N c:=(by obtain ⟨L,hl,h1,_⟩:=ho;rw [←hl];exact qks h1);clear ho hb;
      have hsz1:w.heap.size + 1 + 1≤w1.heap.size:=(by have:=HB.out.size;simpa using this);
      have hrow:=(HB.out.block (w.heap.size + 1) (by simp)).trans (three_two _ _ _ _ _ trivial);have hrow0:=(HB.out.block w.heap.size (by simp;omega)).trans (three_one _ _ _ _ _ trivial);
      have c10:w1.cell? ⟨w.heap.size + 1,10,none⟩=some (.slice none 0 0):=(cell_of_row w1 (w.heap.size + 1) 10 _ _ (0,0) hrow).trans rfl;have f10:w1.frozen? ⟨w.heap.size + 1,10,none⟩=false:=(by simp [World.frozen?,hrow]);have HR:=hI hrow;have HR0:=hI hrow0;clear hrow hrow0))
  have HW0:Hid (NewW (w.heap.size + 1) w1.heap.size w w1 qbp N f me (.slice AM N cM) (.slice none 0 0) 0 (.slice none 0 0) 0 (.slice none 0 0) 0 (w1.setCell ⟨w.heap.size + 1,10,none⟩ (.slice AM N cM))) :=
   ⟨heap_setCell_same w1 _ 10 _ _ _ HR.out,(heap_setCell_other w1 ⟨w.heap.size + 1,10,none⟩ _ _ (by simp)).trans HR0.out,own_k0 _ _,World.ownsRow_nil _ _ _ _,own_d0 _ _,fun j a b=>heap_setCell_other w1 ⟨w.heap.size + 1,10,none⟩ j _ (by simp;omega),((qaa (qab (bel1 w _) _) HB.out)).setCell (p:=⟨w.heap.size + 1,10,none⟩) (by simp) _,by simp,Nat.lt_succ_self _,by omega⟩
  obtain ⟨ws,hws⟩:∃ W,W=w1.setCell ⟨w.heap.size + 1,10,none⟩ (.slice AM N cM):=⟨_,rfl⟩
  rw [←hws] at HW0 ⊢
  obtain ⟨g,hg⟩:∃ g,w.heap.size + 1=g:=⟨_,rfl⟩
  rw [hg] at HW0 ⊢
  have HG:=hI hg
  obtain ⟨i0,hi0,hz0,hz1,hz2⟩:=info_parts qwd
  obtain ⟨j0,hj0,hy0,hy1,hy2⟩:=info_parts qdu
  obtain ⟨k0,hk0,hx0,hx1,hx2⟩:=info_parts rngs_info
  clear hws c10 f10 hg
  go_loopw [12] (fun i wr=>∃ (k:Nat) (vK vF vD:Value),i=.int .i64 k∧k≤N∧Hid (NewW g w1.heap.size w w1 qbp N f me (.slice AM N cM) vK k vF k vD k wr)) (fun i _=>N - (intOf i).toNat)
  case atStart=>exact ⟨0,_,_,_,rfl,Nat.zero_le _,HW0⟩
  case round =>
   obtain ⟨k,vK,vF,vD,rfl,hk,HW⟩:=hrel
   by_cases hlt:k < N
   ·have kz:(k:Int) < (N:Int):=by omega
    have c9:=HW.out.cell 9 (u:=vK) rfl
    have hsz:=HW.out.sz
    go_wp2_with (first
     | (at_builtin;refine wpList_append_own _ rfl _ _ 24 rfl w1.heap.size 66 i0 (.agg #[.int .i64 0,.slice none 0 0,.slice none 0 0]) 3 56 Tryz.underlying24 hi0 hz0 hz1 hz2 rfl (by decide) _ _ _ rfl (HW.out.oK.alloc _) ⟨wr.heap.size,0,none⟩ 1 1 [.int .i64 0,.slice none 0 0,.slice none 0 0] rfl rfl (newL wr _ _) (by simp [Value.oneCell']) (by unfold maxLen;omega) (by omega) (by simp;omega) ?_;intro vK' w3 hown3 hgrow _;
        obtain ⟨AK3,cK3,rfl⟩:=qks hown3;have HW3:=hI (HW.out.putK hgrow hown3);have r3:=(HW.out.grow HW.out.oK hgrow).1;have c9:w3.cell? ⟨g,9,none⟩=some vK:=(cell_of_row w3 g 9 _ _ (0,0) r3).trans rfl;have f9:w3.frozen? ⟨g,9,none⟩=false:=(by simp [World.frozen?,r3]);have c11:w3.cell? ⟨g,11,none⟩=some vF:=(cell_of_row w3 g 11 _ _ (0,0) r3).trans rfl;have hsz:=HW3.out.sz)
     | (at_builtin;refine wpList_append_own _ rfl _ _ 26 rfl w1.heap.size 3 j0 (.int .i64 0) 1 8 Tryz.underlying26 hj0 hy0 hy1 hy2 rfl (by decide) _ _ _ rfl (HW3.out.oF.alloc _) ⟨w3.heap.size,0,none⟩ 1 1 [.int .i64 0] rfl rfl (qwe _ _ _ _ _ _ (by simp)) (by simp [Value.oneCell']) (by unfold maxLen;omega) (by omega) (by simp at hsz ⊢;omega) ?_;intro vF' w4 hown4 hgrow4 _;
        obtain ⟨AF4,cF4,rfl⟩:=qks hown4;have HW4:=hI (HW3.out.putF hgrow4 hown4);have r4:=(HW3.out.grow HW3.out.oF hgrow4).1;have c11:w4.cell? ⟨g,11,none⟩=some vF:=(cell_of_row w4 g 11 _ _ (0,0) r4).trans rfl;have f11:w4.frozen? ⟨g,11,none⟩=false:=(by simp [World.frozen?,r4]);have c12:w4.cell? ⟨g,12,none⟩=some vD:=(cell_of_row w4 g 12 _ _ (0,0) r4).trans rfl;have hsz4:=HW4.out.sz)
     | (at_builtin;refine wpList_append_own _ rfl _ _ 27 rfl w1.heap.size 64 k0 (.slice none 0 0) 1 24 Tryz.underlying27 hk0 hx0 hx1 hx2 rfl (by decide) _ _ _ rfl (HW4.out.oD.alloc _) ⟨w4.heap.size,0,none⟩ 1 1 [.slice none 0 0] rfl rfl (qwe _ _ _ _ _ _ (by simp)) (by simp [Value.oneCell']) (by unfold maxLen;omega) (by omega) (by simp at hsz4 ⊢;omega) ?_;intro vD' w5 hown5 hgrow5 _;
        obtain ⟨AD5,cD5,rfl⟩:=qks hown5;have HW5:=hI (HW4.out.putD hgrow5 hown5);have r5:=(HW4.out.grow HW4.out.oD hgrow5).1;have c12:w5.cell? ⟨g,12,none⟩=some vD:=(cell_of_row w5 g 12 _ _ (0,0) r5).trans rfl;have f12:w5.frozen? ⟨g,12,none⟩=false:=(by simp [World.frozen?,r5])))
    go_roundw
    case rel=>exact ⟨k + 1,_,_,_,by go_num,by omega,HW5⟩
    case measure=>simp [intOf];omega
   ·have hlt':decide ((k:Int) < (N:Int))=false:=decide_eq_false (by omega)
    obtain rfl:k=N:=by omega
    obtain ⟨AK,cK,rfl⟩:=qks HW.out.oK
    obtain ⟨AF,cF,rfl⟩:=qks HW.out.oF
    obtain ⟨AD,cD,rfl⟩:=qks HW.out.oD
    have x1:=qbl HW.out.row (n:=18) rfl
    have x2:=qcf HW.out.row
    unfold nbC at x2
    have y1:=qbl HW.out.res (n:=18) rfl
    have HQ:=hI (fun W' ho=>HW.out.done (W':=W') HP.out (Nat.le_refl _) (by
     have h:=HO.out
     simp only [World.alloc,Array.size_push,HG.out] at h
     exact h) (Nat.le_refl _) ho)
    have HRES:=hI HW.out.res
    have HBW:=hI HW.out.b
    go_wp2
    refine bodyPost_ret (qav rfl rfl (setRow_heap _ _ _ _ _ _ HRES.out) rfl) rfl ?_
    refine ⟨HQ.out _ (fun j hj=>setRow_other _ _ j _ (by have:=HG.out;omega)),HBW.out.trans ⟨rfl,rfl,rfl,by simp,fun j hj=>setRow_other _ _ j _ (by omega)⟩⟩
 ·have HF:=hI (newQ_none hP)
  by_cases h1:qer n f
  ·have e0:(qna n f == 0)=false:=beq_eq_false_iff_ne.2 (hE.2 h1)
   generalize qna n f=z1 at HSZ e0
   generalize slowN n f=z2 at HSZ
   generalize backN n f=z3 at HSZ
   by_cases h2:1≤me
   ·have h3:¬ me≤n:=fun h3=>hP ⟨h1,h2,h3⟩
    have e2:decide (me < 1)=false:=decide_eq_false (by omega)
    have e3:decide (n < me)=true:=decide_eq_true (by omega)
    clear hP h1 h2 h3 hE
    go_enter Tryz.func23,Tryz.ntmps23
    go_wp2_with (go_at_call 59;refine (HSZ.out _).mono ?_;rintro _ _ ⟨rfl,rfl⟩)
    refine bodyPost_ret (qav rfl rfl (heap_alloc_new _ _) rfl) rfl ?_
    exact ⟨HF.out _,bel1 _ _⟩
   ·have e2:decide (me < 1)=true:=decide_eq_true (by omega)
    clear hP h1 h2 hE
    go_enter Tryz.func23,Tryz.ntmps23
    go_wp2_with (go_at_call 59;refine (HSZ.out _).mono ?_;rintro _ _ ⟨rfl,rfl⟩)
    refine bodyPost_ret (qav rfl rfl (heap_alloc_new _ _) rfl) rfl ?_
    exact ⟨HF.out _,bel1 _ _⟩
  ·have e0:(qna n f == 0)=true:=beq_iff_eq.2 (Classical.byContradiction fun h=>h1 (hE.1 h))
   generalize qna n f=z1 at HSZ e0
   generalize slowN n f=z2 at HSZ
   generalize backN n f=z3 at HSZ
   clear hP h1 hE
   go_enter Tryz.func23,Tryz.ntmps23
   go_wp2_with (go_at_call 59;refine (HSZ.out _).mono ?_;rintro _ _ ⟨rfl,rfl⟩)
   refine bodyPost_ret (qav rfl rfl (heap_alloc_new _ _) rfl) rfl ?_
   exact ⟨HF.out _,bel1 _ _⟩
end Go.Proofs.YtlkmagmdhopcjaaGreat
namespace Go.Proofs.YtlkmagmdhopcjaaGreat
open Go.RowKit Go.Sort Go.Lib
set_option maxRecDepth 100000
attribute [local go_sem ↓] qak qai
attribute [local go_sem] qao qdn
def fcs (n:Nat) (f:Nat→Int) (k:Nat):Array Value:=((List.range n).map fun t=>if t < k then Value.int .i64 (f t) else .int .i64 0).toArray
theorem qsg (n:Nat) (f:Nat→Int) (k t:Nat):(fcs n f k)[t]?=if t < n then some (if t < k then Value.int .i64 (f t) else .int .i64 0) else none:=by
 unfold fcs
 by_cases h:t < n <;> simp [h]
theorem fcs_set (n:Nat) (f:Nat→Int) (k:Nat):(fcs n f k).setIfInBounds k (.int .i64 (f k))=fcs n f (k + 1):=by
 apply Array.ext_getElem?
 intro t
 rw [Array.getElem?_setIfInBounds,qsg,qsg]
 have hs:(fcs n f k).size=n:=by simp [fcs]
 by_cases h:k=t
 ·subst h
  rw [if_pos rfl,hs,if_pos (Nat.lt_succ_self k)]
 ·rw [if_neg h]
  by_cases ht:t < n
  ·rw [if_pos ht,if_pos ht]
   by_cases h1:t < k
   ·rw [if_pos h1,if_pos (by omega)]
   ·rw [if_neg h1,if_neg (by omega)]
  ·rw [if_neg ht,if_neg ht]
theorem fcs_all (d:Array Int):fcs d.size (fun j=>d[j]!) d.size=d.map qcv:=by
 apply Array.ext_getElem?
 intro t
 rw [qsg]
 by_cases h:t < d.size <;> simp [h,qcv]
theorem fcs_0 (n:Nat) (f:Nat→Int):((List.range n).map fun _=>Value.int .i64 0).toArray=fcs n f 0:=by unfold fcs;simp
def qcy (d:Array KE):Array Int:=d.map (·.base)
theorem qax (d:Array KE):(qcy d).size=d.size:=by simp [qcy]
theorem qfp (d:Array KE) {j:Nat} (h:j < d.size):(qcy d)[j]! = d[j]!.base:=by
 rw [getElem!_pos _ j (by rw [qax];exact h),getElem!_pos d j h]
 simp [qcy]
def qeh (r:RP):Array Int:=if chkR r=true then qcy r.k.z else #[]
def MarkQ (r:RP) (e:Ending) (w':World):Prop:=∃ x:RW Int,e=.returned x.v∧x.z=qeh r∧RdJ w' x
def MarkN (r:RP) (B:Nat) (e:Ending) (w':World):Prop:=∃ x:RW Int,e=.returned x.v∧x.z=qeh r∧RdJ w' x∧∀ p,x.A=some p→B≤p.block
theorem markN_nil {r:RP} (h:chkR r=false) (B:Nat) (w':World):MarkN r B (.returned (.slice none 0 0)) w' :=
 ⟨⟨none,0,#[]⟩,rfl,by unfold qeh;rw [h];rfl,⟨fun h0=>absurd h0 (by decide),Nat.le_refl _,fun _=>rfl⟩,fun _ h=>by cases h⟩
theorem qhk {r:RP} (h:chkR r=true):(r.k.z.size:Int)=r.n:=((qbi r).1 h).1.2.2.2.2.2.2.2.2.2.2.2.1
set_option maxHeartbeats 8000000 in
theorem qkt (r:RP) (w:World) (h:RdP w r) (hf:FewC r) :
 Calls Tryz.prog 18 #[.agg (encP r).toArray] w fun e w'=>MarkN r w.heap.size e w'∧Below w.heap.size w w':=by
 have HC:Hid (∀ W,Below w.heap.size w W→Calls Tryz.prog 15 #[.agg (encP r).toArray] W fun e w'=>e=.returned (.int .i64 (repE r))∧Below W.heap.size W w'):=fun W hb=>qbh r W (h.below hb) hf
 have HRK:=hI h.k.rd
 obtain ⟨A,hA⟩:∃ A,r.k.A=A:=⟨_,rfl⟩
 rw [hA] at HRK
 obtain ⟨cs,hcs⟩:∃ cs,cs=(encP r).toArray:=⟨_,rfl⟩
 have HI:cs.size=18:=by rw [hcs];rfl
 have q9:cs[9]?=some (.slice A r.k.z.size r.k.c):=by rw [hcs,←hA];rfl
 have q0:cs[0]?=some (.int .i64 r.n):=by rw [hcs];rfl
 have HQ9:=hI q9
 have hk20:=hf.k
 rw [←hcs] at HC ⊢
 simp only [encP] at hcs
 rw [hcs]
 clear h hf hA q9
 cases hc:chkR r
 ·rw [qhj (by simp [hc])] at HC
  have HF:=hI (markN_nil hc w.heap.size)
  clear hc q0
  go_enter Tryz.func18,Tryz.ntmps18
  rw [←hcs]
  clear hcs
  have HX:=hI (BoxR.init w cs 35)
  have x1:=HX.out.box HI
  have x2:=HX.out.rowAt
  go_wp2_with (go_at_call 15;refine (HC.out _ HX.out.b).mono ?_;rintro _ w1 ⟨rfl,hb⟩;have HX:=hI (HX.out.next hb);clear hb)
  go_ret
  exact ⟨HF.out _,HX.out.b⟩
 ·rw [qcw hc] at HC
  have hkn:=qhk hc
  have HM:Hid (qeh r=qcy r.k.z):=by show _=_;unfold qeh;rw [if_pos hc]
  rw [←hkn] at q0
  have HQ0:=hI q0
  have hmk:=fun W=>qmd r.k.z.size (by omega) W
  clear hc q0 hkn
  go_enter Tryz.func18,Tryz.ntmps18
  rw [←hcs]
  clear hcs
  have HX:=hI (BoxR.init w cs 35)
  have x1:=HX.out.box HI
  have x2:=HX.out.rowAt
  go_wp2_with (go_at_call 15;refine (HC.out _ HX.out.b).mono ?_;rintro _ w1 ⟨rfl,hb⟩;have HX:=hI (HX.out.next hb);clear hb x1 x2;have c0:=HX.out.at_ 0 HQ0.out;have c9:=HX.out.at_ 9 HQ9.out;have hlt1:=HX.out.lt)
  clear hmk c0 c9
  have HB1:=hI HX.out.b
  have HL1:=hI HX.out.lt
  clear HX hlt1
  go_loopw [15] (fun i wr=>∃ k:Nat,i=.int .i64 k∧k≤r.k.z.size∧Hid (wr.heap[w1.heap.size]?=some (.cells (fcs r.k.z.size (fun j=>r.k.z[j]!.base) k) 3 (0,0)))∧Hid (Below w1.heap.size w1 wr)) (fun i _=>r.k.z.size - (intOf i).toNat)
  case atStart=>exact ⟨0,rfl,Nat.zero_le _,hI (by rw [fcs_0 _ (fun j=>r.k.z[j]!.base)];exact heap_alloc_new w1 _),hI (bel1 w1 _)⟩
  case round =>
   obtain ⟨k,rfl,hk,HK,HB⟩:=hrel
   by_cases hlt:k < r.k.z.size
   ·have kz:(k:Int) < (r.k.z.size:Int):=by omega
    obtain ⟨b,off,rfl,hbl,f⟩:=(HRK.out.below (qaa HB1.out HB.out)).at_ (i:=k) (by omega)
    have e0:=f 0 (by omega)
    have e1:=f 1 (by omega)
    have e2:=f 2 (by omega)
    have HN:=hI (fcs_set r.k.z.size (fun j=>r.k.z[j]!.base) k)
    have cg:wr.cell? ⟨w1.heap.size,k,none⟩=some (.int .i64 0):=by
     rw [cell_of_row wr _ k _ _ (0,0) HK.out,qsg,if_pos hlt,if_neg (by omega)]
    have fg:wr.frozen? ⟨w1.heap.size,k,none⟩=false:=by
     have:=HK.out
     simp [World.frozen?,this]
    have hgs:w1.heap.size < wr.heap.size:=qdf HK.out
    obtain ⟨x,hx⟩:∃ x,r.k.z[k]! = x:=⟨_,rfl⟩
    rw [hx] at e0 e1 e2
    simp only [hx] at HN
    clear f hx
    simp only [Nat.add_zero,qaz,List.getElem!_cons_zero,List.getElem!_cons_succ] at e0 e1 e2
    obtain ⟨G,hG⟩:∃ G,w1.heap.size=G:=⟨_,rfl⟩
    rw [hG] at cg fg hgs HK ⊢
    rw [hG] at HB
    have HG:=hI hG
    clear hG
    go_wp2
    go_roundw
    case rel =>
     refine ⟨k + 1,by go_num,by omega,hI ?_,hI ?_⟩
     ·rw [←HN.out];exact blk_put HK.out _ k _
     ·exact (HB.out.setCell (p:=⟨G,k,none⟩) (Nat.le_refl _) _).alloc (by simp;omega) _
    case measure=>simp [intOf];omega
   ·have hlt':decide ((k:Int) < (r.k.z.size:Int))=false:=by simp;omega
    have HE:Hid (wr.heap[w1.heap.size]?=some (.cells ((qcy r.k.z).map qcv) 3 (0,0))):=by
     show _=_
     rw [HK.out,←fcs_all,qax]
     have:k=r.k.z.size:=by omega
     rw [this]
     congr 2
     unfold fcs
     congr 1
     refine List.map_congr_left fun t ht=>?_
     simp only [qfp _ (List.mem_range.1 ht)]
    have HT:=hI (qax r.k.z)
    go_wp2
    go_ret
    refine ⟨⟨⟨some ⟨w1.heap.size,0,none⟩,r.k.z.size,qcy r.k.z⟩,?_,HM.out.symm,⟨qsu HE.out,by rw [HT.out];exact Nat.le_refl _,fun h=>by cases h⟩,fun p hp=>by injection hp with hp;rw [←hp];exact HB1.out.size⟩,qaa HB1.out HB.out⟩
    unfold RW.v
    rw [HT.out]
    rfl
theorem qix (r:RP) (w:World) (h:RdP w r) (hf:FewC r) :
 Calls Tryz.prog 18 #[.agg (encP r).toArray] w fun e w'=>MarkQ r e w'∧Below w.heap.size w w' :=
 (qkt r w h hf).mono fun _ _ ⟨⟨x,a,b,c,_⟩,hb⟩=>⟨⟨x,a,b,c⟩,hb⟩
end Go.Proofs.YtlkmagmdhopcjaaGreat
namespace Go.Proofs.YtlkmagmdhopcjaaGreat
open Go.RowKit Go.Sort Go.Lib
theorem up_all {d:Array (Int×Int)} (h:∀ i,i < d.size→0 < i→d[i - 1]!.1 < d[i]!.1):∀ j i,i < j→j < d.size→d[i]!.1 < d[j]!.1:=by
 intro j
 induction j with
 | zero=>intro i hij;omega
 | succ j ih =>
   intro i hij hj
   have h1:=h (j + 1) hj (by omega)
   rw [Nat.add_sub_cancel] at h1
   rcases Nat.lt_or_ge i j with h' | h'
   ·have:=ih i h' (by omega);omega
   ·obtain rfl:i=j:=by omega
    exact h1
theorem qjt (d:Array (Int×Int)) {i:Nat} (hi:i < d.size):d.toList[i]'(by simpa using hi)=d[i]!:=by
 rw [getElem!_pos d i hi];simp
theorem qga {now floor:Int} {d:Array (Int×Int)}:clkB now floor d=true↔(0≤floor∧floor≤now∧now≤1000000)∧d.toList.Pairwise (fun x y=>x.1 < y.1)∧(∀ x ∈ d.toList,floor < x.1∧x.1≤now∧okI x.2=true)∧(d.toList.map (·.2)).Nodup:=by
 rw [qir]
 constructor
 ·rintro ⟨h,g⟩
  have g1:∀ i,i < d.size→(floor < d[i]!.1∧(0 < i→d[i - 1]!.1 < d[i]!.1)∧d[i]!.1≤now)∧(10≤d[i]!.2∧d[i]!.2≤999999∧d[i]!.2 % 10≠0)∧¬ (idsU d i).contains d[i]!.2=true:=fun i hi=>by
   have:=g i hi
   unfold qmi at this
   simp only [Bool.and_eq_true,decide_eq_true_eq,Bool.not_eq_true',Bool.not_eq_true] at this ⊢
   exact ⟨this.1.1,this.1.2,this.2⟩
  have hup:=up_all (d:=d) (fun i hi h0=>(g1 i hi).1.2.1 h0)
  refine ⟨h,?_,?_,?_⟩
  ·rw [List.pairwise_iff_getElem]
   intro i j hi hj hij
   have hi':i < d.size:=by simpa using hi
   have hj':j < d.size:=by simpa using hj
   rw [qjt d hi',qjt d hj']
   exact hup j i hij hj'
  ·intro x hx
   obtain ⟨i,hi,rfl⟩:=List.mem_iff_getElem.1 hx
   have hi':i < d.size:=by simpa using hi
   rw [qjt d hi']
   obtain ⟨a,b,_⟩:=g1 i hi'
   exact ⟨a.1,a.2.2,by unfold okI;exact decide_eq_true b⟩
  ·unfold List.Nodup
   rw [List.pairwise_map,List.pairwise_iff_getElem]
   intro i j hi hj hij he
   have hi':i < d.size:=by simpa using hi
   have hj':j < d.size:=by simpa using hj
   rw [qjt d hi',qjt d hj'] at he
   exact (g1 j hj').2.2 ((qvh (by omega)).2 ⟨i,hij,he⟩)
 ·rintro ⟨h,hp,ha,hn⟩
  refine ⟨h,fun i hi=>?_⟩
  have hm:d[i]! ∈ d.toList:=by rw [getElem!_pos d i hi];simp
  obtain ⟨a,b,c⟩:=ha _ hm
  unfold okI at c
  have hc:(idsU d i).contains d[i]!.2=false:=by
   rw [Bool.eq_false_iff]
   intro hc
   obtain ⟨j,hj,e⟩:=(qvh (by omega)).1 hc
   unfold List.Nodup at hn
   rw [List.pairwise_map,List.pairwise_iff_getElem] at hn
   refine hn j i (by simp;omega) (by simp;omega) hj ?_
   rw [qjt d (by omega),qjt d hi]
   exact e
  unfold qmi
  have hc':((d.toList.take i).map Prod.snd).contains d[i]!.2=false:=hc
  rw [hc',c,Bool.and_true,decide_eq_true (show floor < d[i]!.1∧(0 < i→d[i - 1]!.1 < d[i]!.1)∧d[i]!.1≤now from ⟨a,fun h0=>?_,b⟩)]
  ·rfl
  ·rw [List.pairwise_iff_getElem] at hp
   have:=hp (i - 1) i (by simp;omega) (by simp;omega) (by omega)
   rwa [qjt d (by omega),qjt d hi] at this
theorem qqf {k:KN} {now floor:Int} {own:Array (Int×Int)} (hk:ChkP k) (hc:clkB now floor own=true):AddA k floor now own:=by
 obtain ⟨⟨a,b,c⟩,hp,ha,_⟩:=qga.1 hc
 exact ⟨hk,a,b,c,(qbq _ _ _).2 ⟨hp,ha⟩⟩
def qsh (own:Array (Int×Int)) (floor:Int):Array (Int×Int):=(own.toList.filter fun a=>!decide (a.1≤floor)).toArray
theorem clk_kept {now floor f2:Int} {own:Array (Int×Int)} (hc:clkB now floor own=true) (h1:floor≤f2) (h2:f2≤now):clkB now f2 (qsh own f2)=true:=by
 obtain ⟨⟨a,b,c⟩,hp,ha,hn⟩:=qga.1 hc
 refine qga.2 ⟨⟨by omega,h2,c⟩,?_,?_,?_⟩
 ·show List.Pairwise _ (List.filter _ _)
  exact hp.filter _
 ·intro x hx
  have hx':x ∈ own.toList.filter fun a=>!decide (a.1≤f2):=hx
  obtain ⟨m,q⟩:=List.mem_filter.1 hx'
  have:=ha x m
  simp at q
  exact ⟨q,this.2⟩
 ·show List.Nodup (List.map _ (List.filter _ _))
  unfold List.Nodup at hn ⊢
  rw [List.pairwise_map] at hn ⊢
  exact hn.filter _
theorem qat {d:Array Int} {n:Int}:qas d n=0↔qic n≠0∧(d.size:Int)=n∧∀ x ∈ d.toList,0≤x∧x≤1000000:=by
 unfold qas qiu
 by_cases h:qic n=0
 ·simp [h]
 ·by_cases h2:(d.size:Int)=n
  ·by_cases h3:(d.toList.any fun t=>decide (t < 0∨1000000 < t))=true
   ·rw [if_pos (Or.inr (Or.inr h3))]
    simp only [List.any_eq_true,decide_eq_true_eq] at h3
    obtain ⟨x,hx,h3⟩:=h3
    constructor
    ·intro h0;cases h0
    ·rintro ⟨_,_,g⟩
     have:=g x hx
     omega
   ·rw [if_neg (by rintro (a | a | a);exact h a;exact a h2;exact h3 a)]
    refine ⟨fun _=>⟨h,h2,fun x hx=>?_⟩,fun _=>rfl⟩
    refine Classical.byContradiction fun hc=>h3 ?_
    simp only [List.any_eq_true,decide_eq_true_eq]
    exact ⟨x,hx,by omega⟩
  ·rw [if_pos (Or.inr (Or.inl h2))]
   constructor
   ·intro h0;cases h0
   ·rintro ⟨_,g,_⟩;exact absurd g h2
theorem qgy {d1 d2:Array Int} {n:Int} (h1:qas d1 n=0) (h2:qas d2 n=0):qas (qda d1 d2) n=0:=by
 obtain ⟨a,b,c⟩:=qat.1 h1
 obtain ⟨_,b2,c2⟩:=qat.1 h2
 refine qat.2 ⟨a,by rw [qcd];omega,fun x hx=>?_⟩
 obtain ⟨i,hi,rfl⟩:=List.mem_iff_getElem.1 hx
 have hi':i < (qda d1 d2).size:=by simpa using hi
 have hi2:i < max d1.size d2.size:=by rwa [qcd] at hi'
 have e:(qda d1 d2).toList[i]=qjr d1 d2 i:=by
  have:=qms d1 d2 i hi2
  rw [getElem!_pos _ i hi'] at this
  simpa using this
 rw [e]
 unfold qjr
 rw [if_pos (by omega),if_pos (by omega)]
 have q1:=c d1[i]! (by rw [getElem!_pos d1 i (by omega)];simp)
 have q2:=c2 d2[i]! (by rw [getElem!_pos d2 i (by omega)];simp)
 omega
theorem qgb {α:Type} [Inhabited α] {d:Array α} {x:α} (h:x ∈ d.toList):∃ i,i < d.size∧d[i]! = x:=by
 obtain ⟨i,hi,rfl⟩:=List.mem_iff_getElem.1 h
 have hi':i < d.size:=by simpa using hi
 exact ⟨i,hi',by rw [getElem!_pos d i hi'];simp⟩
theorem qnd {k:Array KE} {n:Int} (hn:3≤n∧n≤9) (hs:(k.size:Int)=n) (h:∀ i,i < k.size→chkB k[i]!.kn=true):qas (qcy k) n=0:=by
 refine qat.2 ⟨?_,by rw [qax];exact hs,fun x hx=>?_⟩
 ·unfold qic
  first | (rw [if_pos (by omega)];omega) | (rw [if_neg (by omega)];omega) | (split <;> omega)
 ·obtain ⟨i,hi,rfl⟩:=qgb hx
  rw [qax] at hi
  rw [qfp k hi]
  have:=qdp.1 (h i hi)
  exact ⟨this.b0,this.b1⟩
def overB (r:RP) (id:Int):Bool:=(r.e.z.toList.any fun x=>qee x.ph && (x.id == id)) || doneI r id
def qns (r:RP) (k:KN) (ids:Array Int):Prop:=∀ x,x ∈ ids.toList↔(x ∈ k.ats.toList.map (·.2)∧overB r x=true)
def colM (m:Array (RW Int)) (c:Nat):Array Int:=m.map fun x=>x.z[c]!
structure RefR (r s:RP):Prop where
 eq:s={ r with k:=s.k,m:=s.m,floor:=s.floor,o:=s.o }
 ks:s.k.z.size=r.k.z.size
 kk:∀ i,i < r.k.z.size→∃ k1 ids,(if (i:Int) + 1=r.self then AddR r.k.z[i]!.kn r.floor r.clock r.o.z k1 else k1=r.k.z[i]!.kn)∧qns r k1 ids∧SetR k1 ids s.k.z[i]!.kn
 ms:s.m.z.size=r.m.z.size
 mm:∀ i,i < r.m.z.size→s.m.z[i]!.z=if (i:Int) + 1=r.self then qda r.m.z[i]!.z (qcy s.k.z) else r.m.z[i]!.z
 floor:s.floor=max r.floor (min (qeg (colM s.m.z (r.self.toNat - 1))) r.clock)
 o:s.o.z=qsh r.o.z s.floor
structure FewM (r:RP):Prop where
 c:FewC r
 k:∀ i,i < r.k.z.size→r.k.z[i]!.r.z.size≤500∧r.k.z[i]!.a.z.size≤400
 s:∀ i,i < r.k.z.size→(i:Int) + 1=r.self→r.k.z[i]!.r.z.size≤150∧r.k.z[i]!.a.z.size≤150
 o:r.o.z.size≤150
theorem FewP.m' {r:RP} (h:FewP r):FewM r :=
 have hk:∀ i,i < r.k.z.size→r.k.z[i]!.r.z.size≤100∧r.k.z[i]!.a.z.size≤100:=fun i hi=>qpm.1 (h.kk i hi)
 ⟨h.c,fun i hi=>by have:=hk i hi;omega,fun i hi _=>by have:=hk i hi;omega,by have:=h.o;omega⟩
theorem qfc {r:RP} (h:chkR r=true):clkB r.clock r.floor r.o.z=true:=by
 have h15:clkE r.clock r.floor r.o.z=0:=((qbi r).1 h).1.2.2.2.1
 unfold clkE at h15
 cases hc:clkB r.clock r.floor r.o.z
 ·rw [hc] at h15;cases h15
 ·rfl
theorem qhl {r:RP} (h:chkR r=true):∀ i,i < r.k.z.size→chkB r.k.z[i]!.kn=true:=fun i hi=>by
 have h16:chkE r.k.z[i]!.kn=0:=(((qbi r).1 h).2.1.2 i hi).1
 unfold chkE at h16
 cases hc:chkB r.k.z[i]!.kn
 ·rw [hc] at h16;cases h16
 ·rfl
theorem qet {r:RP} (h:chkR r=true):(3≤r.n∧r.n≤9)∧1≤r.self∧r.self≤r.n:=by
 obtain ⟨a,b,c,_⟩:=((qbi r).1 h).1
 have:=(qug _ _).1 a
 unfold qer at this
 exact ⟨⟨this.1,this.2.1⟩,b,c⟩
theorem qcq {r:RP} (h:chkR r=true):qfk r.m.z r.n=true:=by
 have h18:qfb r.m.z r.n=0:=((qbi r).1 h).1.2.2.2.2.2.2.2.2.2.2.2.2.1
 unfold qfb at h18
 cases hc:qfk r.m.z r.n
 ·rw [hc] at h18;cases h18
 ·rfl
theorem qbv {m:Array (RW Int)} {n:Int}:qfk m n=true↔(3≤n∧n≤9)∧(m.size:Int)=n∧∀ i,i < m.size→qas m[i]!.z n=0:=by
 unfold qfk
 rw [Bool.and_eq_true,Bool.and_eq_true,decide_eq_true_eq,decide_eq_true_eq,List.all_eq_true]
 constructor
 ·rintro ⟨⟨a,b⟩,c⟩;exact ⟨a,b,fun i hi=>of_decide_eq_true (c i (List.mem_range.2 hi))⟩
 ·rintro ⟨a,b,c⟩;exact ⟨⟨a,b⟩,fun i hi=>decide_eq_true (c i (List.mem_range.1 hi))⟩
theorem RefR.known {r s:RP} (h:RefR r s) (hc:chkR r=true) (hf:FewM r):∀ i,i < r.k.z.size→chkB s.k.z[i]!.kn=true∧r.k.z[i]!.base≤s.k.z[i]!.base∧s.k.z[i]!.r.z.size≤1000∧s.k.z[i]!.a.z.size≤400:=by
 intro i hi
 obtain ⟨k1,ids,h1,_,h3⟩:=h.kk i hi
 have hk:=qdp.1 (qhl hc i hi)
 have hcl:=qfc hc
 have hk1:ChkP k1∧r.k.z[i]!.kn.base≤k1.base:=by
  by_cases hs:(i:Int) + 1=r.self
  ·rw [if_pos hs] at h1
   have hz:r.k.z[i]!.kn.ats.size + r.o.z.size≤400:=by
    have g1:=(hf.s i hi hs).2
    have g2:=hf.o
    show r.k.z[i]!.a.z.size + r.o.z.size≤400
    omega
   have:=qpp (qqf hk hcl) h1 hz
   exact ⟨this.1,this.2.1⟩
  ·rw [if_neg hs] at h1
   rw [h1]
   exact ⟨hk,Int.le_refl _⟩
 have h4:=qvf hk1.1 h3
 obtain ⟨l,_,l2,l3⟩:=h3.ok hk1.1
 have e1:s.k.z[i]!.kn.rs.size≤1000:=Nat.le_trans l3.sz l2
 exact ⟨qdp.2 h4.1,Int.le_trans hk1.2 h4.2.1,e1,h4.1.sz⟩
theorem RefR.fl {r s:RP} (h:RefR r s) (hc:chkR r=true):r.floor≤s.floor∧s.floor≤r.clock:=by
 have h1:=(qga.1 (qfc hc)).1
 rw [h.floor]
 omega
theorem RefR.chk {r s:RP} (h:RefR r s) (hc:chkR r=true) (hf:FewM r):chkR s=true:=by
 have hK:=h.known hc hf
 have hF:=h.fl hc
 have hN:=(qet hc).1
 have hkn:=qhk hc
 have hR:=qbv.1 (qcq hc)
 have hcl:=clk_kept (qfc hc) hF.1 hF.2
 obtain ⟨hA,hB,hC⟩:=(qbi r).1 hc
 have en:s.n=r.n:=by rw [h.eq]
 have ef:s.f=r.f:=by rw [h.eq]
 have es:s.self=r.self:=by rw [h.eq]
 have ec:s.clock=r.clock:=by rw [h.eq]
 have eq':s.seq=r.seq:=by rw [h.eq]
 have et:s.ticks=r.ticks:=by rw [h.eq]
 have ee:s.e=r.e:=by rw [h.eq]
 have er:s.fr=r.fr:=by rw [h.eq]
 have ed:s.d=r.d:=by rw [h.eq]
 have e1:s.lt=r.lt:=by rw [h.eq]
 have e2:s.lid=r.lid:=by rw [h.eq]
 have e3:s.count=r.count:=by rw [h.eq]
 have hmb:qas (qcy s.k.z) r.n=0:=qnd hN (by rw [h.ks];exact hkn) (fun i hi=>(hK i (by rw [←h.ks];exact hi)).1)
 have hrow:qfk s.m.z r.n=true:=by
  refine qbv.2 ⟨hN,by rw [h.ms];exact hR.2.1,fun i hi=>?_⟩
  have hi':i < r.m.z.size:=by rw [←h.ms];exact hi
  rw [h.mm i hi']
  split
  ·exact qgy (hR.2.2 i hi') hmb
  ·exact hR.2.2 i hi'
 obtain ⟨a1,a2,a3,a4,a5,a6,a7,a8,a9,a10,a11,a12,a13,a14,a15⟩:=hA
 refine (qbi s).2 ⟨⟨?_,?_,?_,?_,?_,?_,?_,?_,?_,?_,?_,?_,?_,?_,?_⟩,⟨?_,?_⟩,?_⟩
 ·rw [en,ef];exact a1
 ·rw [es];exact a2
 ·rw [es,en];exact a3
 ·unfold clkE
  rw [ec,h.o,if_pos hcl]
 ·rw [eq'];exact a5
 ·rw [eq'];exact a6
 ·rw [et];exact a7
 ·rw [et];exact a8
 ·rw [e3];exact a9
 ·rw [e3];exact a10
 ·rw [ee];exact a11
 ·rw [h.ks,en];exact a12
 ·unfold qfb
  rw [en,if_pos hrow]
 ·rw [er,en];exact a14
 ·rw [ed,en];exact a15
 ·rw [ee,en];exact hB.1
 ·intro i hi
  rw [h.ks] at hi
  have hk:=(hK i hi).1
  refine ⟨?_,?_⟩
  ·exact if_pos hk
  ·rw [ed];exact (hB.2 i hi).2
 ·unfold RckC at hC ⊢
  rw [e1,e2];exact hC
theorem RefR.few {r s:RP} (h:RefR r s) (hc:chkR r=true) (hf:FewM r):FewC s:=by
 have hK:=h.known hc hf
 have hR:=qbv.1 (qcq hc)
 have hkn:=qhk hc
 have ee:s.e=r.e:=by rw [h.eq]
 have er:s.fr=r.fr:=by rw [h.eq]
 have ed:s.d=r.d:=by rw [h.eq]
 refine ⟨?_,?_,?_,?_,?_,?_,?_,?_,?_,?_⟩
 ·rw [ee];exact hf.c.es
 ·rw [ee];exact hf.c.ee
 ·rw [h.o]
  have:=List.length_filter_le (fun a:Int×Int=>!decide (a.1≤s.floor)) r.o.z.toList
  have:=hf.o
  unfold qsh
  simp at *
  omega
 ·rw [h.ks];exact hf.c.k
 ·rw [h.ms];exact hf.c.m
 ·intro i hi
  have hi':i < r.m.z.size:=by rw [←h.ms];exact hi
  rw [h.mm i hi']
  have hz:=hf.c.mm i hi'
  split
  ·rw [qcd,qax,h.ks]
   have:=hf.c.k
   omega
  ·exact hz
 ·rw [er];exact hf.c.fr
 ·rw [ed];exact hf.c.d
 ·rw [ed];exact hf.c.dd
 ·intro i hi
  rw [h.ks] at hi
  have:=hK i hi
  omega
theorem RefR.own {r s:RP} (h:RefR r s) (hc:chkR r=true) (hf:FewM r) {i:Nat} (hi:i < r.k.z.size) (hs:(i:Int) + 1=r.self) (he:s.k.z[i]!.a.z.size=0) (hl:r.floor≤r.k.z[i]!.base):r.clock≤s.k.z[i]!.base:=by
 obtain ⟨k1,ids,h1,_,h3⟩:=h.kk i hi
 have hk:=qdp.1 (qhl hc i hi)
 rw [if_pos hs] at h1
 have hz:r.k.z[i]!.kn.ats.size + r.o.z.size≤400:=by
  have g1:=(hf.s i hi hs).2
  have g2:=hf.o
  show r.k.z[i]!.a.z.size + r.o.z.size≤400
  omega
 exact own_mark (qqf hk (qfc hc)) h1 hz h3 he hl
end Go.Proofs.YtlkmagmdhopcjaaGreat
namespace Go.Proofs.YtlkmagmdhopcjaaGreat
open Go.RowKit Go.Sort Go.Lib
set_option maxRecDepth 100000
attribute [local go_sem ↓] qak qai
attribute [local go_sem] qao qdn
theorem quh (A:Option Addr) (c:Nat) (s:Array Int) (x:Int) (B:Nat) (w:World) (h:RdI_R B w A s) (hs:s.size≤100000000) :
 Calls Tryz.prog 169 #[.slice A s.size c,.int .i64 x] w fun e w'=>e=.returned (.bool (s.toList.contains x))∧w'=w:=by
 rcases Nat.eq_zero_or_pos s.size with h0 | h0
 ·obtain rfl:s=#[]:=Array.eq_empty_of_size_eq_zero h0
  exact Tryz.slices_Contains_int_empty A c x w
 ·obtain ⟨b,o,rfl,_,f⟩:=h h0
  have:=Tryz.slices_Contains_int b o s.size c s.toList x w (by simp) (by omega) (fun j hj=>by
   have hj':j < s.size:=by simpa using hj
   rw [f j hj',getElem!_pos s j hj'];simp [hj'])
  rw [List.take_of_length_le (by simp)] at this
  exact this
def qkk (r:RP):Array Int:=fmT (fun x=>qee x.ph) EN.id r.e.z
theorem qyr (r:RP):(qkk r).size≤r.e.z.size:=fmT_size _ _ _
theorem overB_iff (r:RP) (id:Int):overB r id=((qkk r).toList.contains id || doneI r id):=by
 unfold overB qkk fmT
 congr 1
 rw [Bool.eq_iff_iff]
 simp only [List.any_eq_true,Bool.and_eq_true,beq_iff_eq,List.contains_iff_mem,List.mem_map,List.mem_filter]
 constructor
 ·rintro ⟨x,hx,h1,h2⟩;exact ⟨x,⟨hx,h1⟩,h2⟩
 ·rintro ⟨x,⟨hx,h1⟩,h2⟩;exact ⟨x,hx,h1,h2⟩
set_option maxHeartbeats 2000000 in
theorem over1_any (r:RP) (x:Int) (A:Option Addr) (c:Nat) (g1 g2:Nat) (w:World) (h1:g1 < w.heap.size) (q1:w.cell? ⟨g1,0,none⟩=some (.slice A (qkk r).size c)) (q2:w.heap[g2]?=some (.cells (encP r).toArray 35 (0,0))) (hs:RdI_R w.heap.size w A (qkk r)) (h:RdP w r) (hf:FewC r) (hd:(r.d.z.size:Int)=r.n) :
 Calls Tryz.prog 173 #[.int .i64 x,.pointer (some ⟨g1,0,none⟩),.pointer (some ⟨g2,0,none⟩)] w fun e w'=>e=.returned (.bool (!overB r x))∧Below w.heap.size w w':=by
 have HV:Hid (overB r x=((qkk r).toList.contains x || doneI r x)):=overB_iff r x
 have HC:=hI (quh A c (qkk r) x _ w hs (by have:=qyr r;have:=hf.es;omega))
 have HD:=hI (qsq r x w h.d.rd (fun i hi=>(h.dd i hi).rd) hd (by have:=hf.d;omega))
 obtain ⟨cs,hcs⟩:∃ cs,cs=(encP r).toArray:=⟨_,rfl⟩
 have HI:cs.size=18:=by rw [hcs];rfl
 rw [←hcs] at q2 HD
 have x1:=qbl q2 HI
 have x2:=qcf q2
 generalize (qkk r).toList.contains x=p1 at HV HC
 generalize doneI r x=p2 at HV HD
 clear hs h hf hd q2 hcs
 cases p1 <;> cases p2
 all_goals
  go_enter Tryz.func173,Tryz.ntmps173
  go_wp2_with (first
   | (go_at_call 169;refine HC.out.mono ?_;rintro _ _ ⟨rfl,rfl⟩)
   | (go_at_call 174;refine HD.out.mono ?_;rintro _ w1 ⟨rfl,hb⟩;have HB:=hI hb;clear hb))
  go_ret
  exact ⟨qac (by rw [HV.out];rfl),by first | exact HB.out | exact Below.refl _ _⟩
set_option maxHeartbeats 1000000 in
theorem idxJ_0 (A:Option Addr) (fv:Value) (c:Nat) (w:World) :
 Calls Tryz.prog 219 #[.slice A 0 c,fv] w fun e w'=>e=.returned (.int .i64 (-1))∧w=w':=by
 go_enter Tryz.func219,Tryz.ntmps219
 go_wp2
 refine wp_loop_rounds 1 ?_;rw [rounds_succ]
 go_wp2
 go_ret
 exact ⟨rfl,rfl⟩
set_option maxHeartbeats 1000000 in
theorem delJ_0 (A:Option Addr) (fv:Value) (c:Nat) (w:World) :
 Calls Tryz.prog 171 #[.slice A 0 c,fv] w fun e w'=>e=.returned (.slice A 0 c)∧w=w':=by
 go_enter Tryz.func171,Tryz.ntmps171
 go_wp2_with (go_at_call 219;refine (idxJ_0 _ _ _ _).mono ?_;rintro e w' ⟨rfl,rfl⟩)
 go_ret
 exact ⟨rfl,rfl⟩
theorem holdsJ {w:World} {g:Nat} {s:Array Int} (h:Holds (Value.int .i64) w g 0 s):HoldsK qdx 1 w g 0 s:=by
 intro t ht
 rw [size_flatK] at ht
 have h':=h t (by omega)
 rw [get_flatK _ _ _ _ (by omega),Nat.mod_one,Nat.div_one]
 exact h'
theorem delJ_own (p:Int→Bool) (g:Nat) (lb:Array Value) (eg:∀ args w,(callFunc g args).run Tryz.prog w=.ok (.enter g args) w) (A:Option Addr) (c B:Nat) (s:Array Int) (w:World)
 (hp:∀ W x,(∀ i,i < B→W.heap[i]?=w.heap[i]?)→B≤W.heap.size→W.os=w.os→W.tape=w.tape→W.output=w.output→Calls Tryz.prog g (#[.int .i64 x] ++ lb) W fun e w'=>e=.returned (.bool (p x))∧Below W.heap.size W w')
 (hA:OwnB B w A c s) (hB:B≤w.heap.size) (hsz:s.size≤1000000) :
 Calls Tryz.prog 171 #[.slice A s.size c,.func (.func g) #[] lb] w fun e w'=>e=.returned (.slice A (s.toList.filter fun x=>!p x).toArray.size c)∧RdI_R w'.heap.size w' A (s.toList.filter fun x=>!p x).toArray∧Below B w w':=by
 rcases hA with rfl | ⟨b,rfl,hBb,hlt,hH,hc⟩
 ·exact (delJ_0 A _ c w).mono fun e w' ⟨he,hw⟩=>⟨he,fun h=>by simp at h,hw ▸ Below.refl _ _⟩
 ·refine (intDel p g lb eg b 0 c s w (fun W x hg=>hp W x (fun i hi=>hg.block i (by omega) (by simp;omega)) (Nat.le_trans hB hg.size) hg.os hg.tape hg.output) (holdsJ hH) hlt hsz hc).mono fun e w' ⟨he,hg,hr⟩=>⟨he,rdJ_T hr,(Below.refl B w).grown hg hB (fun k hk=>?_)⟩
  injection hk with hk
  omega
theorem over_of {r:RP} {k:KN} {s:Array Int} (hc:chkB k=true) (h:OpenR k s):qns r k (s.toList.filter fun x=>overB r x).toArray:=by
 intro x
 show x ∈ List.filter _ _↔_
 rw [List.mem_filter,h.mem,hc]
 simp
set_option maxHeartbeats 4000000 in
theorem over_any (r:RP) (v:Value) (k:KN) (w:World) (h:RdP w r) (hk:KnV w v k) (hf:FewC r) (hd:(r.d.z.size:Int)=r.n) (hc:chkB k=true) (s2:k.ats.size≤1000) :
 Calls Tryz.prog 86 #[.agg (encP r).toArray,v] w fun e w'=>(∃ A s c,e=.returned (.slice A s.size c)∧qns r k s∧RdI_R w'.heap.size w' A s∧s.size≤1000)∧Below w.heap.size w w':=by
 have HOV:Hid (∀ s,OpenR k s→qns r k (s.toList.filter fun x=>overB r x).toArray):=fun s hs=>over_of hc hs
 have HKO:Hid (∀ W,Below w.heap.size w W→Calls Tryz.prog 172 #[v] W fun e w'=>(∃ A s c,e=.returned (.slice A s.size c)∧OpenR k s∧RdI_R w'.heap.size w' A s∧s.size≤k.ats.size∧OwnB W.heap.size w' A c s)∧Below W.heap.size W w'):=fun W hb=>qwt v k W (hk.below hb) (by omega)
 have HTS:Hid (∀ W,Below w.heap.size w W→Calls Tryz.prog 170 #[.slice r.e.A r.e.z.size r.e.c] W fun e w'=>(∃ A' c',e=.returned (.slice A' (qkk r).size c')∧RdK qdx 1 w'.heap.size w' A' (qkk r))∧Below W.heap.size W w'):=fun W hb=>tSetl_any r.e.A r.e.c r.e.z W (h.e.below hb).rd (by have:=hf.es;omega)
 have H1:Hid (∀ (W:World) (x:Int) (A:Option Addr) (c g1 g2:Nat),Below w.heap.size w W→g1 < W.heap.size→W.cell? ⟨g1,0,none⟩=some (.slice A (qkk r).size c)→W.heap[g2]?=some (.cells (encP r).toArray 35 (0,0))→RdI_R W.heap.size W A (qkk r)→Calls Tryz.prog 173 #[.int .i64 x,.pointer (some ⟨g1,0,none⟩),.pointer (some ⟨g2,0,none⟩)] W fun e w'=>e=.returned (.bool (!overB r x))∧Below W.heap.size W w') :=
  fun W x A c g1 g2 hb a1 a2 a3 a4=>over1_any r x A c g1 g2 W a1 a2 a3 a4 (h.below hb) hf hd
 obtain ⟨cs,hcs⟩:∃ cs,cs=(encP r).toArray:=⟨_,rfl⟩
 have q7:cs[7]?=some (.slice r.e.A r.e.z.size r.e.c):=by rw [hcs];rfl
 have HQ7:=hI q7
 rw [←hcs] at H1 ⊢
 obtain ⟨base,rs,ats⟩:=k
 obtain ⟨A1,c1,A2,c2,rfl,k1,k2,n1,n2⟩:=hk
 generalize qkk r=sl at HTS H1
 clear h hf hd hc k1 k2 n1 n2 q7
 simp only [encP] at hcs
 rw [hcs]
 go_enter Tryz.func86,Tryz.ntmps86
 rw [←hcs]
 clear hcs
 have HX:=hI (BoxG.fst w cs #[.int .i64 base,.slice A1 rs.size c1,.slice A2 ats.size c2] 35 66)
 have HY:=hI (BoxG.snd w cs #[.int .i64 base,.slice A1 rs.size c1,.slice A2 ats.size c2] 35 66)
 have c7:=HX.out.at_ 7 HQ7.out
 go_wp2_with fail
 refine (HTS.out _ HX.out.b).mono ?_
 rintro _ w1 ⟨⟨A',c',rfl,hr⟩,hb⟩
 have HX1:=hI (HX.out.next hb)
 have HY1:=hI (HY.out.next hb)
 have HR1:=hI (rdJ_T hr)
 have z0:=HY1.out.at_ 0 (v:=.int .i64 base) rfl
 have z1:=HY1.out.at_ 1 (v:=.slice A1 rs.size c1) rfl
 have z2:=HY1.out.at_ 2 (v:=.slice A2 ats.size c2) rfl
 have hlt1:=HX1.out.lt
 have hlt2:=HY1.out.lt
 clear hr hb c7
 go_wp2_with fail
 have HX2:=hI (HX1.out.next (bel1 w1 (.cells #[.slice A' sl.size c'] 26)))
 have HG2:Hid ((w1.alloc (.cells #[.slice A' sl.size c'] 26)).heap[w1.heap.size]?=some (.cells #[.slice A' sl.size c'] 26 (0,0))):=heap_alloc_new w1 _
 have HR2:=hI ((HR1.out.below (bel1 w1 (.cells #[.slice A' sl.size c'] 26))).mono (bel1 w1 (.cells #[.slice A' sl.size c'] 26)).size)
 refine (HKO.out _ HX2.out.b).mono ?_
 rintro _ w2 ⟨⟨A3,s3,c3,rfl,ho,hr3,hs3,hown⟩,hb⟩
 have HB2:=hI (HX2.out.next hb)
 have hg1:w1.heap.size < (w1.alloc (.cells #[.slice A' sl.size c'] 26)).heap.size:=by simp
 have hg2:w.heap.size < (w1.alloc (.cells #[.slice A' sl.size c'] 26)).heap.size:=by simp;omega
 have HD:=hI (delJ_own (fun x=>!overB r x) 173 #[.pointer (some ⟨w1.heap.size,0,none⟩),.pointer (some ⟨w.heap.size,0,none⟩)] (enters_of Tryz.func173 (by kernel_rfl) rfl) A3 c3 _ s3 w2
  (fun W x hW hWs ho ht hu=>by
    have hbW:Below (w1.alloc (.cells #[.slice A' sl.size c'] 26)).heap.size (w1.alloc (.cells #[.slice A' sl.size c'] 26)) W:=⟨ho.trans hb.os,ht.trans hb.tape,hu.trans hb.output,hWs,fun i hi=>(hW i hi).trans (hb.block i hi)⟩
    refine H1.out W x A' c' _ _ (qaa HX2.out.b hbW) (Nat.lt_of_lt_of_le hg1 hWs) ?_ ?_ ((HR2.out.below hbW).mono hWs)
    ·rw [hbW.cell (p:=⟨w1.heap.size,0,none⟩) hg1,cell_of_row _ _ 0 _ _ (0,0) HG2.out];rfl
    ·exact (hbW.block _ hg2).trans HX2.out.row)
  hown hb.size (by omega))
 simp only [Bool.not_not] at HD
 have HBw:=hI hb
 have HOV2:=hI (HOV.out s3 ho)
 have hs4:=List.length_filter_le (fun x=>overB r x) s3.toList
 have HS4:Hid ((s3.toList.filter fun x=>overB r x).toArray.size≤1000):=by
  show _≤_
  simp at hs4 ⊢
  omega
 clear ho hr3 hs3 hown hb hs4 HKO HTS H1
 go_wp2_with fail
 refine HD.out.mono ?_
 rintro _ w3 ⟨rfl,hr4,hb⟩
 have HR4:=hI hr4
 have HB4:=hI hb
 clear hr4 hb
 go_wp2
 go_ret
 exact ⟨⟨A3,_,c3,rfl,HOV2.out,HR4.out,HS4.out⟩,qaa HX2.out.b (HBw.out.trans HB4.out)⟩
end Go.Proofs.YtlkmagmdhopcjaaGreat
namespace Go.Proofs.YtlkmagmdhopcjaaGreat
open Go.RowKit Go.Sort Go.Lib
structure EqR (a b:RP):Prop where
 h:sameH a b
 e:a.e.z.size=b.e.z.size∧∀ i,i < a.e.z.size→sameP a.e.z[i]! b.e.z[i]!
 o:a.o.z=b.o.z
 k:a.k.z.size=b.k.z.size∧∀ i,i < a.k.z.size→a.k.z[i]!.kn=b.k.z[i]!.kn
 m:a.m.z.size=b.m.z.size∧∀ i,i < a.m.z.size→a.m.z[i]!.z=b.m.z[i]!.z
 fr:a.fr.z=b.fr.z
 d:a.d.z.size=b.d.z.size∧∀ i,i < a.d.z.size→a.d.z[i]!.z=b.d.z[i]!.z
theorem EqR.refl (a:RP):EqR a a:=⟨⟨rfl,rfl,rfl,rfl,rfl,rfl,rfl,rfl,rfl,rfl⟩,⟨rfl,fun _ _=>qjy _⟩,rfl,⟨rfl,fun _ _=>rfl⟩,⟨rfl,fun _ _=>rfl⟩,rfl,⟨rfl,fun _ _=>rfl⟩⟩
theorem EqR.same {a b:RP} (h:EqR a b):qwc a b=true:=by
 unfold qwc
 simp only [Bool.and_eq_true,decide_eq_true_eq]
 refine ⟨h.h,⟨⟨⟨⟨⟨?_,h.o⟩,?_⟩,?_⟩,h.fr⟩,?_⟩⟩
 ·exact decide_eq_true h.e
 ·exact qhs h.k.1 fun i hi=>qqq.2 (h.k.2 i hi)
 ·exact qhs h.m.1 fun i hi=>decide_eq_true (h.m.2 i hi)
 ·exact qhs h.d.1 fun i hi=>decide_eq_true (h.d.2 i hi)
theorem sameP.symm {a b:EN} (h:sameP a b):sameP b a:=by
 obtain ⟨a1,a2,a3,a4,a5,a6,a7,a8,a9,a10⟩:=h
 exact ⟨a1.symm,a2.symm,a3.symm,a4.symm,a5.symm,a6.symm,a7.symm,a8.symm,a9.symm,a10.symm⟩
theorem qen {α:Type} [Inhabited α] (d:Array α) {i:Nat} (hi:i < d.size):d[i]! ∈ d.toList:=by
 rw [getElem!_pos d i hi];simp
theorem EqR.doneI {a b:RP} (h:EqR a b) (hc:(a.d.z.size:Int)=a.n) (id:Int):doneI a id=doneI b id:=by
 unfold Go.Proofs.YtlkmagmdhopcjaaGreat.doneI
 have hn:a.n=b.n:=h.h.1
 rw [←hn]
 by_cases hs:1≤qbe id∧qbe id≤a.n
 ·rw [h.d.2 _ (by omega)]
 ·rw [decide_eq_false hs];rfl
theorem EqR.overB {a b:RP} (h:EqR a b) (hc:(a.d.z.size:Int)=a.n) (id:Int):overB a id=overB b id:=by
 unfold Go.Proofs.YtlkmagmdhopcjaaGreat.overB
 rw [h.doneI hc id]
 congr 1
 rw [Bool.eq_iff_iff,List.any_eq_true,List.any_eq_true]
 constructor
 ·rintro ⟨x,hx,hp⟩
  obtain ⟨i,hi,rfl⟩:=qgb hx
  have hs:=h.e.2 i hi
  refine ⟨b.e.z[i]!,qen _ (by rw [←h.e.1];exact hi),?_⟩
  rw [←hs.1,←hs.2.1];exact hp
 ·rintro ⟨x,hx,hp⟩
  obtain ⟨i,hi,rfl⟩:=qgb hx
  have hi':i < a.e.z.size:=by rw [h.e.1];exact hi
  have hs:=h.e.2 i hi'
  refine ⟨a.e.z[i]!,qen _ hi',?_⟩
  rw [hs.1,hs.2.1];exact hp
theorem SetR.congr {k r:KN} {ids ids':Array Int} (h:SetR k ids r) (hd:∀ a ∈ k.ats.toList,qfq ids a=qfq ids' a):SetR k ids' r:=by
 obtain ⟨l,h1,h2,h3⟩:=h
 have e1:qgm k ids=qgm k ids':=by
  unfold qgm
  congr 1
  exact List.filter_congr fun a ha=>by rw [hd a ha]
 have e2:∀ n,pS k ids n=pS k ids' n:=fun n=>by
  unfold pS
  congr 1
  rw [Bool.eq_iff_iff,List.any_eq_true,List.any_eq_true]
  constructor
  ·rintro ⟨x,hx,hp⟩;exact ⟨x,hx,by rw [←hd x hx];exact hp⟩
  ·rintro ⟨x,hx,hp⟩;exact ⟨x,hx,by rw [hd x hx];exact hp⟩
 exact ⟨l,h1.congr e2,h2,e1 ▸ h3⟩
theorem qsi {ids:Array Int} {a:Int×Int}:qfq ids a=true↔a.2 ∈ ids.toList:=by
 unfold qfq;simp
theorem over_done {r r':RP} {k:KN} {ids ids':Array Int} (h:qns r k ids) (h':qns r' k ids') (ho:∀ id,overB r id=overB r' id):∀ a ∈ k.ats.toList,qfq ids a=qfq ids' a:=by
 intro a ha
 rw [Bool.eq_iff_iff,qsi,qsi,h a.2,h' a.2,ho]
theorem bases_eq {a b:Array KE} (hs:a.size=b.size) (h:∀ i,i < a.size→a[i]!.kn=b[i]!.kn):qcy a=qcy b:=by
 refine Array.ext (by rw [qax,qax,hs]) fun i h1 h2=>?_
 rw [qax] at h1
 have e1:=qfp a h1
 have e2:=qfp b (by rw [←hs];exact h1)
 rw [getElem!_pos _ i (by rw [qax];exact h1)] at e1
 rw [getElem!_pos _ i h2] at e2
 rw [e1,e2]
 exact congrArg KN.base (h i h1)
theorem colM_eq {a b:Array (RW Int)} (hs:a.size=b.size) (h:∀ i,i < a.size→a[i]!.z=b[i]!.z) (c:Nat):colM a c=colM b c:=by
 have ez:∀ d:Array (RW Int),(colM d c).size=d.size:=fun d=>by simp [colM]
 refine Array.ext (by rw [ez,ez,hs]) fun i h1 h2=>?_
 rw [ez] at h1 h2
 have:=h i h1
 rw [getElem!_pos a i h1,getElem!_pos b i h2] at this
 simp only [colM,Array.getElem_map,this]
theorem RefR.uniq {r r' s s':RP} (he:EqR r r') (hd:(r.d.z.size:Int)=r.n) (h:RefR r s) (h':RefR r' s'):EqR s s':=by
 obtain ⟨hn,hf,hs,hc,hq,hfl,ht,hl1,hl2,hct⟩:=he.h
 have ek:∀ i,i < r.k.z.size→s.k.z[i]!.kn=s'.k.z[i]!.kn:=by
  intro i hi
  obtain ⟨k1,ids,a1,a2,a3⟩:=h.kk i hi
  obtain ⟨k2,ids',b1,b2,b3⟩:=h'.kk i (by rw [←he.k.1];exact hi)
  have e12:k1=k2:=by
   rw [←he.k.2 i hi,←hs,←hfl,←hc,←he.o] at b1
   by_cases hp:(i:Int) + 1=r.self
   ·rw [if_pos hp] at a1 b1
    exact a1.uniq b1
   ·rw [if_neg hp] at a1 b1
    rw [a1,b1]
  subst e12
  exact (a3.congr (over_done a2 b2 (he.overB hd))).uniq b3
 have esz:s.k.z.size=s'.k.z.size:=by rw [h.ks,h'.ks,he.k.1]
 have eb:=bases_eq esz (fun i hi=>ek i (by rw [←h.ks];exact hi))
 have em:∀ i,i < r.m.z.size→s.m.z[i]!.z=s'.m.z[i]!.z:=by
  intro i hi
  rw [h.mm i hi,h'.mm i (by rw [←he.m.1];exact hi),he.m.2 i hi,hs,eb]
 have emz:s.m.z.size=s'.m.z.size:=by rw [h.ms,h'.ms,he.m.1]
 have ecol:=colM_eq emz (fun i hi=>em i (by rw [←h.ms];exact hi)) (r'.self.toNat - 1)
 have efl:s.floor=s'.floor:=by rw [h.floor,h'.floor,hfl,hc,hs,ecol]
 have q:=h.eq
 have q':=h'.eq
 have ge:∀ {a b:RP} {k m fl o},a={ b with k:=k,m:=m,floor:=fl,o:=o }→a.n=b.n∧a.f=b.f∧a.self=b.self∧a.clock=b.clock∧a.seq=b.seq∧a.ticks=b.ticks∧a.e=b.e∧a.fr=b.fr∧a.d=b.d∧a.lt=b.lt∧a.lid=b.lid∧a.count=b.count:=by
  rintro a b k m fl o rfl
  exact ⟨rfl,rfl,rfl,rfl,rfl,rfl,rfl,rfl,rfl,rfl,rfl,rfl⟩
 obtain ⟨p1,p2,p3,p4,p5,p6,p7,p8,p9,p10,p11,p12⟩:=ge q
 obtain ⟨r1,r2,r3,r4,r5,r6,r7,r8,r9,r10,r11,r12⟩:=ge q'
 refine ⟨⟨?_,?_,?_,?_,?_,efl,?_,?_,?_,?_⟩,?_,?_,⟨esz,fun i hi=>ek i (by rw [←h.ks];exact hi)⟩,⟨emz,fun i hi=>em i (by rw [←h.ms];exact hi)⟩,?_,?_⟩
 ·rw [p1,r1,hn]
 ·rw [p2,r2,hf]
 ·rw [p3,r3,hs]
 ·rw [p4,r4,hc]
 ·rw [p5,r5,hq]
 ·rw [p6,r6,ht]
 ·rw [p10,r10,hl1]
 ·rw [p11,r11,hl2]
 ·rw [p12,r12,hct]
 ·rw [p7,r7];exact he.e
 ·rw [h.o,h'.o,he.o,efl]
 ·rw [p8,r8];exact he.fr
 ·rw [p9,r9];exact he.d
end Go.Proofs.YtlkmagmdhopcjaaGreat
