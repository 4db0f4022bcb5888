/- Texts that the law leans on. -/
import Derived.Test.YtnmojicfmcbgmaaGreatDoorQOpenK
import Derived.Test.YtnmojicfmcbgmaaGreatDoorQStC
import Derived.Test.YtnmojicfmcbgmaaGreatDoorQStD
import Derived.Test.YtnmojicfmcbgmaaGreatDoorQStE
import Derived.Test.YtnmojicfmcbgmaaGreatDoorQStF
import Derived.Test.YtnmojicfmcbgmaaGreatDoorQKnJ
import Derived.Test.YtnmojicfmcbgmaaGreatDoorQStI
import Derived.Test.YtnmojicfmcbgmaaGreatDoorQTbB
import Derived.Test.YtnmojicfmcbgmaaGreatDoorQRangesO
import Derived.Test.YtnmojicfmcbgmaaGreatDoorQIdentB
import Derived.Test.YtnmojicfmcbgmaaGreatDoorQRead
import Derived.Test.YtnmojicfmcbgmaaGreatDoorShelf
import Derived.Test.YtnmojicfmcbgmaaGreatDoorQTbH
import Derived.BigGuardPart
import Derived.Laws.StructEq
import Derived.IntWalk
import Derived.Test.YtnmojicfmcbgmaaGreatDoorQEnC
namespace Go.Proofs.YtnmojicfmcbgmaaGreatDoor
open Go.RowKit Go.Sort Go.Lib
set_option maxRecDepth 100000
theorem qki (n f:Int) (w:World) (hf:f≤9):Calls Tryz.prog 119 #[.int .i64 n,.int .i64 f] w fun e w'=>e=.returned (.int .i64 (qlx n f))∧w=w':=by
 have h1:1≤f→3≤n→n≤9→True:=fun _ _ _=>trivial
 go_enter Tryz.func119,Tryz.ntmps119
 go_wp2
 all_goals
  go_ret
  refine ⟨qaf ?_,rfl⟩
  unfold qlx qeb
  first
   | exact (if_pos (show 3≤n∧n≤9∧1≤f∧2 * f≤n - 1 by omega)).symm
   | exact (if_neg (show ¬ (3≤n∧n≤9∧1≤f∧2 * f≤n - 1) by omega)).symm
def qkm (n f:Int):Int:=if qeb n f then n / 2 + f else 0
def qzg (n f:Int):Int:=if qeb n f then f + 1 else 0
def qzh (n f:Int):Int:=if qeb n f then n - f else 0
theorem qrt (n f:Int) (w:World):Calls Tryz.prog 60 #[.int .i64 n,.int .i64 f] w fun e w'=>e=.returned (.tuple #[.int .i64 (qkm n f),.int .i64 (qzg n f),.int .i64 (qzh n f)])∧w=w':=by
 have hb:=qnl n f
 have HF:Hid (qkm n f=if qeb n f then n / 2 + f else 0):=hI rfl
 have HS:Hid (qzg n f=if qeb n f then f + 1 else 0):=hI rfl
 have HB:Hid (qzh n f=if qeb n f then n - f else 0):=hI rfl
 by_cases h:qeb n f
 ·rw [if_pos h] at HF HS HB
  have h9:decide (9 < f)=false:=by unfold qeb at h;simp;omega
  rw [decide_eq_true h] at hb
  unfold qeb at h
  obtain ⟨a,b,c,d⟩:=h
  go_enter Tryz.func60,Tryz.ntmps60
  go_wp2_with (go_at_call 119;refine (qki _ _ _ (by omega)).mono ?_;rintro _ _ ⟨rfl,rfl⟩)
  go_ret3
  exact ⟨by rw [HF.out,HS.out,HB.out];rfl,rfl⟩
 ·rw [if_neg h] at HF HS HB
  rw [decide_eq_false h] at hb
  clear h
  by_cases h9:9 < f
  ·have h9':decide (9 < f)=true:=decide_eq_true h9
   go_enter Tryz.func60,Tryz.ntmps60
   go_wp2
   go_ret3
   exact ⟨by rw [HF.out,HS.out,HB.out];rfl,rfl⟩
  ·have h9':decide (9 < f)=false:=decide_eq_false h9
   go_enter Tryz.func60,Tryz.ntmps60
   go_wp2_with (go_at_call 119;refine (qki _ _ _ (by omega)).mono ?_;rintro _ _ ⟨rfl,rfl⟩)
   go_ret3
   exact ⟨by rw [HF.out,HS.out,HB.out];rfl,rfl⟩
theorem qmi (n f:Int):qkm n f≠0↔qeb n f:=by
 unfold qkm
 by_cases h:qeb n f
 ·rw [if_pos h];unfold qeb at h ⊢;constructor
  ·intro _;exact h
  ·intro _;omega
 ·rw [if_neg h];simp [h]
theorem set_last {d:Array (Int×Int)} (h:qaw d=0):(∀ j,j < d.size→d[j]!.2≤99999)↔¬ (0 < d.size∧99999 < d[d.size - 1]!.2):=by
 have hn:=NL.of_set h
 constructor
 ·rintro g ⟨h0,h1⟩
  have:=g (d.size - 1) (by omega)
  omega
 ·intro g j hj
  rcases Nat.lt_or_ge j (d.size - 1) with hlt | hge
  ·have hp:=List.pairwise_iff_getElem.1 hn.2 j (d.size - 1) (by simpa using hj) (by simp;omega) hlt
   have hm:=hn.1 (d[d.size - 1]!) (by rw [getElem!_pos d (d.size - 1) (by omega)];simp)
   rw [getElem!_pos d j hj]
   rw [getElem!_pos d (d.size - 1) (by omega)] at hm g
   simp only [Array.getElem_toList] at hp
   have:¬ 99999 < d[d.size - 1].2:=fun h=>g ⟨by omega,h⟩
   omega
  ·obtain rfl:j=d.size - 1:=by omega
   have:¬ 99999 < d[d.size - 1]!.2:=fun h=>g ⟨by omega,h⟩
   omega
theorem qzi (d:Array (Int×Int)):qlz d=false↔qaw d=0∧∀ j,j < d.size→d[j]!.2≤99999:=by
 unfold qlz
 by_cases h:qaw d=0
 ·rw [set_last h]
  simp [h]
 ·have hb:(qaw d != 0)=true:=bne_iff_ne.2 h
  simp [h,hb]
theorem qfz {n:Nat} {p:Nat→Bool}:anyN n p=false↔∀ j,j < n→p j=false:=by
 constructor
 ·intro h j hj
  cases hp:p j
  ·rfl
  ·rw [qkp j hj hp] at h;cases h
 ·exact qoz
theorem qdz (r:RP):chkR r=true↔RckA r (qkm r.n r.f) (clkE r.clock r.floor r.o.z) (tabE r.e.z) (qfx r.m.z r.n) (qbl r.fr.z r.n)∧RckB r (fun i=>chkE r.k.z[i]!.kn) (fun i=>qaw r.d.z[i]!.z)∧RckC r:=by
 have h1:=qmi r.n r.f
 have h2:clkE r.clock r.floor r.o.z=0↔clkB r.clock r.floor r.o.z=true:=by unfold clkE;cases clkB r.clock r.floor r.o.z <;> simp
 have h3:tabE r.e.z=0↔chkT r.e.z=true:=by unfold tabE;cases chkT r.e.z <;> simp
 have h4:qfx r.m.z r.n=0↔qhr r.m.z r.n=true:=by unfold qfx;cases qhr r.m.z r.n <;> simp
 have h5:∀ k:KN,chkE k=0↔chkB k=true:=fun k=>by unfold chkE;cases chkB k <;> simp
 unfold chkR qib qtc qly finB RckA RckB RckC lastB
 simp only [Bool.and_eq_true,decide_eq_true_eq,Bool.not_eq_true',qfz,farB,decide_eq_false_iff_not,qzi,Bool.not_eq_false',h1,h2,h3,h4,h5]
 constructor
 ·rintro ⟨⟨⟨⟨⟨⟨a,b⟩,c⟩,d⟩,e,f⟩,⟨⟨g,i⟩,j⟩,k⟩,⟨l,m⟩,n⟩
  exact ⟨⟨a,b.1,b.2,d,c.1,c.2.1,c.2.2.1,c.2.2.2.1,c.2.2.2.2.1,c.2.2.2.2.2,e,g,j,k,l⟩,⟨fun q hq=>Int.not_lt.1 (f q hq),fun q hq=>⟨i q hq,(m q (by omega)).1,(m q (by omega)).2⟩⟩,n⟩
 ·rintro ⟨⟨a,b1,b2,d,c1,c2,c3,c4,c5,c6,e,g,j,k,l⟩,⟨f,i⟩,n⟩
  exact ⟨⟨⟨⟨⟨⟨a,b1,b2⟩,c1,c2,c3,c4,c5,c6⟩,d⟩,e,fun q hq=>Int.not_lt.2 (f q hq)⟩,⟨⟨g,fun q hq=>(i q hq).1⟩,j⟩,k⟩,⟨l,fun q hq=>(i q (by omega)).2⟩,n⟩
theorem repE_yes {r:RP} (h:chkR r=true):repE r=0:=by unfold repE;rw [if_pos h]
theorem qtr {r:RP} (h:¬ chkR r=true):repE r=2:=by unfold repE;rw [if_neg h]
theorem qts (r:RP) (w:World) (h:RdP w r) (hf:FewC r) :
 Calls Tryz.prog 54 #[.agg (encP r).toArray] w fun e w'=>e=.returned (.int .i64 (repE r))∧Below w.heap.size w w' :=
 qrr r w _ _ _ _ (fun W hb=>qyq r W (h.below hb) (by have:=hf.o;omega)) (fun W hb=>cmds_any r W (h.below hb) hf) (fun W hb=>hears_any r W (h.below hb) hf) (fun W hb=>fin_any r W (h.below hb) hf)
theorem qru (r:RP) (w:World) (h:RdP w r) (hf:FewC r) :
 Calls Tryz.prog 71 #[.agg (encP r).toArray] w fun e w'=>e=.returned (.int .i64 (repE r))∧Below w.heap.size w w':=by
 have hi:=qdz r
 refine qpk r w (qkm r.n r.f) (qzg r.n r.f) (qzh r.n r.f) (clkE r.clock r.floor r.o.z) (tabE r.e.z) (qfx r.m.z r.n) (qbl r.fr.z r.n) (fun i=>chkE r.k.z[i]!.kn) (fun i=>qaw r.d.z[i]!.z) (repE r)
  h.e.rd h.k.rd h.d.rd (fun i hi=>(h.dd i hi).rd) ⟨by have:=hf.es;omega,by have:=hf.k;omega,by have:=hf.d;omega⟩ hf.dd ?_ ?_ ?_ ?_ ?_ ?_ ?_ ?_ ?_ ?_ ?_
 ·exact fun W _=>(qrt _ _ W).mono fun _ _ ⟨he,hw⟩=>⟨he,hw ▸ Below.refl _ _⟩
 ·exact fun W hb=>rClk_any _ _ _ _ _ W (h.o.below hb).rd (by have:=hf.o;omega)
 ·exact fun W hb=>qsh _ _ _ W ((h.below hb).tab hf)
 ·exact fun W hb=>rSw_any _ _ _ _ W (h.m.below hb).rd (fun i hi=>(h.mm i hi).below hb) (by have:=hf.m;omega) (fun i hi=>by have:=hf.mm i hi;omega)
 ·exact fun W hb=>(qkh _ _ _ _ _ W (h.fr.below hb).rd (by have:=hf.fr;omega)).mono fun _ _ ⟨he,hw⟩=>⟨he,hw ▸ Below.refl _ _⟩
 ·exact fun i hi W hb=>qyf _ _ W ((h.kk i hi).below hb).knV
 ·exact fun i hi W hb=>(qgg _ _ _ _ W ((h.dd i hi).below hb).rd).mono fun _ _ ⟨he,n,hw⟩=>⟨he,hw ▸ qax (Below.refl _ _) n⟩
 ·exact fun a b c=>repE_yes (hi.2 ⟨a,b,c⟩)
 ·exact fun a=>qtr fun h=>a (hi.1 h).1
 ·exact fun a=>qtr fun h=>a (hi.1 h).2.1
 ·exact fun a=>qtr fun h=>a (hi.1 h).2.2
theorem few25_any (r:RP) (w:World) (h:RdP w r) :
 Calls Tryz.prog 17 #[.agg (encP r).toArray] w fun e w'=>e=.returned (.bool (fewR r))∧Below w.heap.size w w':=by
 have hi:fewR r=true↔(FewA r (fewT r.e.z) (fewM r.m.z)∧(∀ i,i < r.k.z.size→fewK r.k.z[i]!.kn=true)∧(∀ i,i < r.d.z.size→r.d.z[i]!.z.size≤100)∧r.it.z.size≤60∧r.ss.z.size≤60):=by
  rw [qvq]
  exact ⟨fun h=>⟨⟨h.e,h.o,h.k,h.m,h.fr,h.d⟩,h.kk,h.dd,h.it,h.ss⟩,fun ⟨⟨a,b,c,d,e,f⟩,g,i,j,k⟩=>⟨a,b,c,d,e,f,g,i,j,k⟩⟩
 refine qzf r w (fewT r.e.z) (fewM r.m.z) (fun i=>fewK r.k.z[i]!.kn) (fewR r) h.k.rd h.d.rd ?_ ?_ ?_ ?_ ?_ ?_ ?_
 ·exact fun W hb=>few21_any _ _ _ W (h.e.below hb)
 ·exact fun W hb=>few18_any _ _ _ W (h.m.below hb).rd
 ·exact fun i hi W hb=>Few16_any _ _ W ((h.kk i hi).below hb).knV
 ·intro a b c
  by_cases hd:r.it.z.size≤60∧r.ss.z.size≤60
  ·rw [decide_eq_true hd];exact hi.2 ⟨a,b,c,hd⟩
  ·rw [decide_eq_false hd];exact Bool.eq_false_iff.2 fun h=>hd (hi.1 h).2.2.2
 ·exact fun a=>Bool.eq_false_iff.2 fun h=>a (hi.1 h).1
 ·exact fun a=>Bool.eq_false_iff.2 fun h=>a (hi.1 h).2.1
 ·exact fun a=>Bool.eq_false_iff.2 fun h=>a (hi.1 h).2.2.1
theorem qwn {r:RP} (h:chkR r=true):(r.d.z.size:Int)=r.n:=((qdz r).1 h).1.2.2.2.2.2.2.2.2.2.2.2.2.2.2
end Go.Proofs.YtnmojicfmcbgmaaGreatDoor
namespace Go.Proofs.YtnmojicfmcbgmaaGreatDoor
open Go.RowKit Go.Sort Go.Lib
set_option maxRecDepth 100000
def sameM (m1 m2:Array (RW Int)):Bool:=allN m1.size m2.size fun i=>decide (m1[i]!.z=m2[i]!.z)
def sameD (m1 m2:Array (RW (Int×Int))):Bool:=allN m1.size m2.size fun i=>decide (m1[i]!.z=m2[i]!.z)
def qrv (m1 m2:Array KE):Bool:=allN m1.size m2.size fun i=>qqt m1[i]!.kn m2[i]!.kn
def qha (a b:RP):Bool:=decide (qmn a b) && (qij a.e.z b.e.z && decide (a.o.z=b.o.z) && qrv a.k.z b.k.z && sameM a.m.z b.m.z && decide (a.fr.z=b.fr.z) && sameD a.d.z b.d.z)
theorem drewB {w w':World}:(∃ n,w'=w.drewN n)→Below w.heap.size w w':=by
 rintro ⟨n,rfl⟩
 exact qax (Below.refl _ _) n
theorem qtt (a b:RP) (w:World) (ha:RdP w a) (hb:RdP w b) (fa:FewC a) (fb:FewC b) :
 Calls Tryz.prog 50 #[.agg (encP a).toArray,.agg (encP b).toArray] w fun e w'=>e=.returned (.bool (qha a b))∧Below w.heap.size w w' :=
 qry a b w _ _ _ _ _ _
  (fun W h=>quc _ _ _ _ _ _ W ((ha.below h).tab fa) ((hb.below h).tab fb))
  (fun W h=>(qhu _ _ _ _ _ _ _ W (ha.o.below h).rd (hb.o.below h).rd (by have:=fa.o;omega) (by have:=fb.o;omega)).mono fun _ _ ⟨he,hw⟩=>⟨he,drewB hw⟩)
  (fun W h=>qym (fun i=>qqt a.k.z[i]!.kn b.k.z[i]!.kn) _ _ _ _ _ _ W (ha.k.below h).rd (hb.k.below h).rd (by have:=fa.k;omega) (fun i i1 i2 W' h'=>qsw _ _ _ _ W' (((ha.kk i i1).below h).below h').knV (((hb.kk i i2).below h).below h').knV (by have:=(fa.kk i i1).1;simp only [KE.kn];omega) (by have:=(fa.kk i i1).2;simp only [KE.kn];omega) (by have:=(fb.kk i i2).1;simp only [KE.kn];omega) (by have:=(fb.kk i i2).2;simp only [KE.kn];omega)))
  (fun W h=>rSame18 (fun i=>decide (a.m.z[i]!.z=b.m.z[i]!.z)) _ _ _ _ _ _ W (ha.m.below h).rd (hb.m.below h).rd (by have:=fa.m;omega) (fun i i1 i2 W' h'=>(qhw _ _ _ _ _ _ _ _ W' (((ha.mm i i1).below h).below h').rd (((hb.mm i i2).below h).below h').rd (by have:=fb.mm i i2;omega)).mono fun _ _ ⟨he,hw⟩=>⟨he,drewB hw⟩))
  (fun W h=>(qhw _ _ _ _ _ _ _ _ W (ha.fr.below h).rd (hb.fr.below h).rd (by have:=fb.fr;omega)).mono fun _ _ ⟨he,hw⟩=>⟨he,drewB hw⟩)
  (fun W h=>rSameDone (fun i=>decide (a.d.z[i]!.z=b.d.z[i]!.z)) _ _ _ _ _ _ W (ha.d.below h).rd (hb.d.below h).rd (by have:=fa.d;omega) (fun i i1 i2 W' h'=>(qno _ _ _ _ _ _ _ _ W' (((ha.dd i i1).below h).below h').rd (((hb.dd i i2).below h).below h').rd (by have:=fb.dd i i2;omega)).mono fun _ _ ⟨he,hw⟩=>⟨he,drewB hw⟩))
theorem qmj {n:Nat} {p:Nat→Bool} (h:∀ i,i < n→p i=true):allN n n p=true:=qek rfl h
theorem qtu (a:RP):qha a a=true:=by
 unfold qha qrv sameM sameD
 rw [qnu,qmj (fun i _=>qjx _),qmj (fun i _=>by simp),qmj (fun i _=>by simp)]
 simp [qmn]
end Go.Proofs.YtnmojicfmcbgmaaGreatDoor
namespace Go.Proofs.YtnmojicfmcbgmaaGreatDoor
open Go.RowKit Go.Sort Go.Lib
structure NewR (n f me:Int) (N:Nat) (s:RP):Prop where
 h:s.n=n∧s.f=f∧s.self=me∧s.clock=0∧s.seq=0∧s.floor=0∧s.ticks=0∧s.lt=0∧s.lid=0∧s.count=0
 e:s.e.z=#[]
 o:s.o.z=#[]
 k:s.k.z.size=N∧∀ i,i < N→s.k.z[i]!.kn=⟨0,#[],#[]⟩
 m:NewM N s.m.z
 fr:s.fr.z=(List.replicate N 0).toArray
 d:s.d.z.size=N∧∀ i,i < N→s.d.z[i]!.z=#[]
 it:s.it.z=#[]
 ss:s.ss.z=#[]
def rp0:RP:=⟨0,0,0,0,0,0,0,⟨none,0,#[]⟩,⟨none,0,#[]⟩,⟨none,0,#[]⟩,⟨none,0,#[]⟩,⟨none,0,#[]⟩,⟨none,0,#[]⟩,0,0,0,⟨none,0,#[]⟩,⟨none,0,#[]⟩⟩
theorem newR_none:NewR 0 0 0 0 rp0 :=
 ⟨⟨rfl,rfl,rfl,rfl,rfl,rfl,rfl,rfl,rfl,rfl⟩,rfl,rfl,⟨rfl,fun i hi=>absurd hi (Nat.not_lt_zero i)⟩,⟨rfl,fun i hi=>absurd hi (Nat.not_lt_zero i)⟩,rfl,⟨rfl,fun i hi=>absurd hi (Nat.not_lt_zero i)⟩,rfl,rfl⟩
theorem NewR.same {n f self:Int} {k:Nat} {a b:RP} (h:NewR n f self k a) (g:NewR n f self k b):qha a b=true:=by
 obtain ⟨h1,h2,h3,h4,h5,h6,h7,h8,h9,h10⟩:=h.h
 obtain ⟨g1,g2,g3,g4,g5,g6,g7,g8,g9,g10⟩:=g.h
 have e0:decide (qmn a b)=true:=decide_eq_true ⟨by rw [h1,g1],by rw [h2,g2],by rw [h3,g3],by rw [h4,g4],by rw [h5,g5],by rw [h6,g6],by rw [h7,g7],by rw [h8,g8],by rw [h9,g9],by rw [h10,g10]⟩
 have e1:qij a.e.z b.e.z=true:=by rw [h.e,g.e];exact qnu _
 have e2:qrv a.k.z b.k.z=true:=qek (by rw [h.k.1,g.k.1]) fun i hi=>by
  rw [h.k.1] at hi
  rw [h.k.2 i hi,g.k.2 i hi];exact qjx _
 have e3:sameM a.m.z b.m.z=true:=qek (by rw [h.m.1,g.m.1]) fun i hi=>by
  rw [h.m.1] at hi
  rw [h.m.2 i hi,g.m.2 i hi];exact decide_eq_true rfl
 have e4:sameD a.d.z b.d.z=true:=qek (by rw [h.d.1,g.d.1]) fun i hi=>by
  rw [h.d.1] at hi
  rw [h.d.2 i hi,g.d.2 i hi];exact decide_eq_true rfl
 unfold qha
 rw [e0,e1,e2,e3,e4,h.o,g.o,h.fr,g.fr]
 simp
theorem NewR.few {n f self:Int} {k:Nat} {a:RP} (h:NewR n f self k a) (hk:k≤20):FewP a where
 e:=by rw [h.e];rfl
 o:=by rw [h.o];exact Nat.zero_le _
 k:=by rw [h.k.1];exact hk
 m:=qhh.2 ⟨by rw [h.m.1];exact hk,fun i hi=>by rw [h.m.1] at hi;rw [h.m.2 i hi];simpa using hk⟩
 fr:=by rw [h.fr];simpa using hk
 d:=by rw [h.d.1];exact hk
 kk:=fun i hi=>by rw [h.k.1] at hi;rw [h.k.2 i hi];rfl
 dd:=fun i hi=>by rw [h.d.1] at hi;rw [h.d.2 i hi];exact Nat.zero_le _
 it:=by rw [h.it];exact Nat.zero_le _
 ss:=by rw [h.ss];exact Nat.zero_le _
def newP (n f self:Int):Prop:=qeb n f∧1≤self∧self≤n
instance (n f self:Int):Decidable (newP n f self):=by unfold newP qeb;infer_instance
def NewQ (n f self:Int) (e:Ending) (w':World):Prop:=∃ s:RP,e=.returned (.tuple #[.agg (encP s).toArray,.int .i64 (if newP n f self then 0 else 2)])∧(if newP n f self then NewR n f self n.toNat s else NewR 0 0 0 0 s)∧RdP w' s
theorem qft {α:Type} [Inhabited α] (en:α→List Value) (k:Nat) (w:World):RdW en k w ⟨none,0,#[]⟩:=⟨fun h=>absurd h (Nat.not_lt_zero _),Nat.le_refl _,fun _=>rfl⟩
theorem qku {α:Type} [Inhabited α] (en:α→List Value) (k:Nat) (w:World):RdN en k w ⟨none,0,#[]⟩:=⟨fun h=>absurd h (Nat.not_lt_zero _),fun _=>rfl⟩
theorem rdJ_none (w:World):RdJ w ⟨none,0,#[]⟩:=⟨fun h=>absurd h (by decide),Nat.le_refl _,fun _=>rfl⟩
theorem rdP_none (w:World):RdP w rp0 where
 e:=⟨fun h=>absurd h (Nat.not_lt_zero _),fun i hi=>absurd hi (Nat.not_lt_zero i)⟩
 o:=qku _ _ _
 k:=qft _ _ _
 kk:=fun i hi=>absurd hi (Nat.not_lt_zero i)
 m:=qft _ _ _
 mm:=fun i hi=>absurd hi (Nat.not_lt_zero i)
 fr:=rdJ_none _
 d:=qft _ _ _
 dd:=fun i hi=>absurd hi (Nat.not_lt_zero i)
 it:=qft _ _ _
 ss:=qft _ _ _
theorem newQ_none {n f self:Int} (h:¬ newP n f self) (w:World):NewQ n f self (.returned (.tuple #[.agg #[.int .i64 0,.int .i64 0,.int .i64 0,.int .i64 0,.int .i64 0,.int .i64 0,.int .i64 0,.slice none 0 0,.slice none 0 0,.slice none 0 0,.slice none 0 0,.slice none 0 0,.slice none 0 0,.int .i64 0,.int .i64 0,.int .i64 0,.slice none 0 0,.slice none 0 0],.int .i64 2])) w :=
 ⟨rp0,by rw [if_neg h];rfl,by rw [if_neg h];exact newR_none,rdP_none w⟩
end Go.Proofs.YtnmojicfmcbgmaaGreatDoor
namespace Go.Proofs.YtnmojicfmcbgmaaGreatDoor
open Go.RowKit Go.Sort Go.Lib
set_option maxRecDepth 100000
theorem qfh (a0 a1 a2 a3 a4 a5 a6 a13 a14 a15:Int) (A7 A8 A9 A10 A11 A12 A16 A17:Option Addr) (n7 c7 n8 c8 n9 c9 n10 c10 n11 c11 n12 c12 n16 c16 n17 c17:Nat):qbw #[.int .i64 a0,.int .i64 a1,.int .i64 a2,.int .i64 a3,.int .i64 a4,.int .i64 a5,.int .i64 a6,.slice A7 n7 c7,.slice A8 n8 c8,.slice A9 n9 c9,.slice A10 n10 c10,.slice A11 n11 c11,.slice A12 n12 c12,.int .i64 a13,.int .i64 a14,.int .i64 a15,.slice A16 n16 c16,.slice A17 n17 c17]=true:=by simp [qbw,Value.oneCell']
theorem qhm (a0 a1 a2 a3 a4 a5 a6 a13 a14 a15:Int) (A7 A8 A9 A10 A11 A12 A16 A17:Option Addr) (n7 c7 n8 c8 n9 c9 n10 c10 n11 c11 n12 c12 n16 c16 n17 c17:Nat):(#[.int .i64 a0,.int .i64 a1,.int .i64 a2,.int .i64 a3,.int .i64 a4,.int .i64 a5,.int .i64 a6,.slice A7 n7 c7,.slice A8 n8 c8,.slice A9 n9 c9,.slice A10 n10 c10,.slice A11 n11 c11,.slice A12 n12 c12,.int .i64 a13,.int .i64 a14,.int .i64 a15,.slice A16 n16 c16,.slice A17 n17 c17]:Array Value).size=18:=rfl
theorem qbq (W:World) (g:Nat) (cs:Array Value) (h:qgm W g 18=true) (hc:cs.size=18) (h1:qbw cs=true) :
 (qjj 35 (.pointer (some ⟨g,0,none⟩)) (.agg cs)).run Tryz.prog W=.ok () (W.setRow g cs):=by
 obtain ⟨t,h2,h3⟩:=qhd h
 simp only [qjj,Instr.storeAt,Instr.sureAddr,Sem.run_bind,Sem.run_pure,Result.andThen]
 exact run_storeVar_row W g t 35 _ cs h2 (by rw [hc];kernel_rfl) (by rw [h3,hc]) h1
theorem qbz (W:World) (g:Nat) (zs cs:Array Value) (hg:W.heap.size=g) (hz:zs.size=18) (hc:cs.size=18) (h1:qbw cs=true) :
 (qjj 35 (.pointer (some ⟨g,0,none⟩)) (.agg cs)).run Tryz.prog (W.alloc (.cells zs 35))=.ok () (W.alloc (.cells cs 35)):=qci W g zs cs hg hz hc h1
theorem qii {W:World} {g:Nat} {cs:Array Value} {T:TypeId} (h:W.heap[g]?=some (.cells cs T (0,0))) (hc:cs.size=18):(loadVar 35 ⟨g,0,none⟩).run Tryz.prog W=.ok (.agg cs) W :=
 run_loadVar_row W g T 35 cs (0,0) _ h Tryz.underlying35 rfl (by rw [hc];kernel_rfl)
theorem qtv {fn:Func} {t:Tmp} (hf:fn.results=#[.cell t 35]) {tm:Array Value} {W:World} {g:Nat} {cs:Array Value} {T:TypeId} (hg:tm.getD t undef=.pointer (some ⟨g,0,none⟩)) (h:W.heap[g]?=some (.cells cs T (0,0))) (hc:cs.size=18):(results fn tm).run Tryz.prog W=.ok (.agg cs) W:=by
 have hg2:tm[t]?.getD undef=.pointer (some ⟨g,0,none⟩):=by rw [←Array.getD_eq_getD_getElem?];exact hg
 simp [results,hf,hg2,asAddr,qii h hc]
theorem qbm {fn:Func} {t u:Tmp} (hf:fn.results=#[.cell t 35,.tmp u]) {tm:Array Value} {W:World} {g:Nat} {cs:Array Value} {T:TypeId} (hg:tm.getD t undef=.pointer (some ⟨g,0,none⟩)) (h:W.heap[g]?=some (.cells cs T (0,0))) (hc:cs.size=18):(results fn tm).run Tryz.prog W=.ok (.tuple #[.agg cs,tm.getD u undef]) W:=by
 have hg2:tm[t]?.getD undef=.pointer (some ⟨g,0,none⟩):=by rw [←Array.getD_eq_getD_getElem?];exact hg
 simp [results,hf,hg2,asAddr,qii h hc]
theorem qpl:(Tryz.prog.info? 81).map (fun i=>(i.zero,i.size,i.bytes))=some (some (.agg #[.int .i64 0,.slice none 0 0,.slice none 0 0]),3,56):=by kernel_rfl
theorem qmk:(Tryz.prog.info? 79).map (fun i=>(i.zero,i.size,i.bytes))=some (some (.slice none 0 0),1,24):=by kernel_rfl
def ke0:KE:=⟨0,⟨none,0,#[]⟩,⟨none,0,#[]⟩⟩
def kes (n:Nat):Array KE:=(List.replicate n ke0).toArray
def rws (n:Nat):Array (RW (Int×Int)):=(List.replicate n ⟨none,0,#[]⟩).toArray
theorem qpm {α:Type} [Inhabited α] (n i:Nat) (x:α) (h:i < n):((List.replicate n x).toArray)[i]! = x:=by
 rw [getElem!_pos _ i (by simpa using h)]
 simp
attribute [local go_sem ↓] qbc qba
attribute [local go_sem] qbt qbq qbz qfh qhm
end Go.Proofs.YtnmojicfmcbgmaaGreatDoor
namespace Go.Proofs.YtnmojicfmcbgmaaGreatDoor
open Go.RowKit Go.Sort Nb
structure NN (r:RP):Prop where
 h:0≤r.n∧0≤r.f∧0≤r.self∧0≤r.clock∧0≤r.seq∧0≤r.floor∧0≤r.ticks∧0≤r.lt∧0≤r.lid∧0≤r.count
 e:∀ x ∈ r.e.z.toList,nnE x
 o:nnP r.o.z
 k:∀ x ∈ r.k.z.toList,nnK x
 m:∀ x ∈ r.m.z.toList,nnI x.z
 fr:nnI r.fr.z
 d:∀ x ∈ r.d.z.toList,nnP x.z
 it:∀ x ∈ r.it.z.toList,nnT x
 ss:∀ x ∈ r.ss.z.toList,nnS x
theorem qtw {α β:Type} {f:α→β} {P:α→Prop} {R:α→α→Prop} (inj:∀ x y,P x→P y→f x=f y→R x y):∀ {l1 l2:List α},l1.map f=l2.map f→(∀ x ∈ l1,P x)→(∀ x ∈ l2,P x)→l1.length=l2.length∧∀ i (h1:i < l1.length) (h2:i < l2.length),R l1[i] l2[i]
 | [],[],_,_,_=>⟨rfl,fun i h1=>absurd h1 (Nat.not_lt_zero i)⟩
 | [],_ :: _,h,_,_=>by cases h
 | _ :: _,[],h,_,_=>by cases h
 | x :: l1,y :: l2,h,p,q=>by
   rw [List.map_cons,List.map_cons] at h
   injection h with h1 h2
   obtain ⟨a,b⟩:=qtw inj h2 (fun z hz=>p z (by simp [hz])) (fun z hz=>q z (by simp [hz]))
   refine ⟨by simp [a],fun i i1 i2=>?_⟩
   cases i with
   | zero=>exact inj x y (p x (by simp)) (q y (by simp)) h1
   | succ i=>exact b i (by simpa using i1) (by simpa using i2)
theorem qml {α β:Type} {f:α→β} {P:α→Prop} (inj:∀ x y,P x→P y→f x=f y→x=y) {d1 d2:Array α} (h:d1.toList.map f=d2.toList.map f) (p:∀ x ∈ d1.toList,P x) (q:∀ x ∈ d2.toList,P x):d1=d2:=by
 obtain ⟨a,b⟩:=qtw inj h p q
 exact Array.toList_inj.1 (List.ext_getElem a b)
theorem qpn {α β:Type} [Inhabited α] {f:α→β} {P:α→Prop} {R:α→α→Prop} (inj:∀ x y,P x→P y→f x=f y→R x y) {d1 d2:Array α} (h:d1.toList.map f=d2.toList.map f) (p:∀ x ∈ d1.toList,P x) (q:∀ x ∈ d2.toList,P x):d1.size=d2.size∧∀ i,i < d1.size→R d1[i]! d2[i]!:=by
 obtain ⟨a,b⟩:=qtw inj h p q
 have a':d1.size=d2.size:=by simpa using a
 refine ⟨a',fun i hi=>?_⟩
 have:=b i (by simpa using hi) (by simp;omega)
 rw [getElem!_pos d1 i hi,getElem!_pos d2 i (by omega)]
 simpa using this
theorem qkv {d1 d2:Array (Int×Int)} (h:qbg d1=qbg d2) (p:nnP d1) (q:nnP d2):d1=d2 :=
 qml (P:=fun x=>0≤x.1∧0≤x.2) (fun x y hx hy h=>by
  unfold natP at h
  simp only [List.cons.injEq,and_true] at h
  exact Prod.ext (by omega) (by omega)) h (fun x hx=>p x hx) (fun x hx=>q x hx)
theorem int_inj {d1 d2:Array Int} (h:intM d1=intM d2) (p:nnI d1) (q:nnI d2):d1=d2 :=
 qml (P:=fun x:Int=>0≤x) (fun x y hx hy h=>by
  simp only [List.cons.injEq,and_true] at h
  omega) h (fun x hx=>p x hx) (fun x hx=>q x hx)
theorem ack_inj {x y:AK} (hx:nnA x) (hy:nnA y) (h:ackN x=ackN y):x=y:=by
 unfold ackN at h
 unfold nnA at hx hy
 simp only [List.cons.injEq,and_true] at h
 obtain ⟨a,b,c,d,e,f⟩:=x
 obtain ⟨a',b',c',d',e',f'⟩:=y
 simp only at *
 obtain ⟨h1,h2,h3,h4,h5,h6⟩:=h
 obtain rfl:a=a':=by omega
 obtain rfl:b=b':=by omega
 obtain rfl:c=c':=by omega
 obtain rfl:d=d':=by omega
 obtain rfl:e=e':=by omega
 obtain rfl:f=f':=by omega
 rfl
theorem pay_inj {a b:ByteArray} (h:a.data.toList=b.data.toList):a=b:=by
 obtain ⟨a⟩:=a
 obtain ⟨b⟩:=b
 exact congrArg _ (Array.toList_inj.1 h)
theorem ent_inj {x y:EN} (hx:nnE x) (hy:nnE y) (h:entM x=entM y):qkk x y:=by
 unfold entM at h
 injection h with h1 h2
 injection h2 with h2 h3
 unfold ent8 at h1
 simp only [List.cons.injEq,and_true] at h1
 obtain ⟨hx1,hx2⟩:=hx
 obtain ⟨hy1,hy2⟩:=hy
 refine ⟨by omega,by omega,by omega,by omega,by omega,by omega,by omega,by omega,pay_inj h2,qml (P:=nnA) (fun _ _=>ack_inj) h3 hx2 hy2⟩
theorem kn_inj {x y:KE} (hx:nnK x) (hy:nnK y) (h:knM x=knM y):x.kn=y.kn:=by
 unfold knM at h
 injection h with h1 h2
 injection h2 with h2 h3
 obtain ⟨a1,a2,a3⟩:=hx
 obtain ⟨b1,b2,b3⟩:=hy
 unfold KE.kn
 rw [show x.base=y.base by omega,qkv h2 a2 b2,qkv h3 a3 b3]
theorem it_inj {x y:IT} (hx:nnT x) (hy:nnT y) (h:itM x=itM y):x=y:=by
 unfold itM at h
 unfold nnT at hx hy
 simp only [List.cons.injEq,and_true] at h
 obtain ⟨a,b,c,d⟩:=x
 obtain ⟨a',b',c',d'⟩:=y
 simp only at *
 obtain ⟨h1,h2,h3,h4⟩:=h
 obtain rfl:a=a':=by omega
 obtain rfl:b=b':=by omega
 obtain rfl:c=c':=by omega
 obtain rfl:d=d':=by omega
 rfl
theorem se_inj {x y:SS} (hx:nnS x) (hy:nnS y) (h:seM x=seM y):x=y:=by
 unfold seM at h
 injection h with h1 h2
 unfold nnS at hx hy
 simp only [List.cons.injEq,and_true] at h1
 obtain ⟨a,b,c⟩:=x
 obtain ⟨a',b',c'⟩:=y
 simp only at *
 obtain rfl:a=a':=by omega
 obtain rfl:b=b':=by omega
 obtain rfl:=pay_inj h2
 rfl
instance:DecidableEq IT:=fun x y=>decidable_of_iff (x.id=y.id∧x.free=y.free∧x.held=y.held∧x.gone=y.gone) ⟨fun ⟨a,b,c,d⟩=>by
 obtain ⟨x1,x2,x3,x4⟩:=x
 obtain ⟨y1,y2,y3,y4⟩:=y
 simp only at a b c d
 subst a b c d
 rfl,fun h=>by subst h;exact ⟨rfl,rfl,rfl,rfl⟩⟩
instance:DecidableEq SS:=fun x y=>decidable_of_iff (x.cl=y.cl∧x.seq=y.seq∧x.rep=y.rep) ⟨fun ⟨a,b,c⟩=>by
 obtain ⟨x1,x2,x3⟩:=x
 obtain ⟨y1,y2,y3⟩:=y
 simp only at a b c
 subst a b c
 rfl,fun h=>by subst h;exact ⟨rfl,rfl,rfl⟩⟩
def qkb (a b:RP):Bool:=qha a b && (decide (a.it.z=b.it.z) && decide (a.ss.z=b.ss.z))
theorem qem {x y:Int} (hx:0≤x) (hy:0≤y) (h:x.toNat=y.toNat):x=y:=by omega
theorem head_inj {a b:RP} (h0:a.n.toNat=b.n.toNat) (h:qpg a=qpg b) (p:0≤a.n∧0≤a.f∧0≤a.self∧0≤a.clock∧0≤a.seq∧0≤a.floor∧0≤a.ticks∧0≤a.lt∧0≤a.lid∧0≤a.count) (q:0≤b.n∧0≤b.f∧0≤b.self∧0≤b.clock∧0≤b.seq∧0≤b.floor∧0≤b.ticks∧0≤b.lt∧0≤b.lid∧0≤b.count):qmn a b:=by
 unfold qpg at h
 simp only [List.cons.injEq,and_true] at h
 obtain ⟨h1,h2,h3,h4,h5,h6,h7,h8,h9⟩:=h
 obtain ⟨p0,p1,p2,p3,p4,p5,p6,p7,p8,p9⟩:=p
 obtain ⟨q0,q1,q2,q3,q4,q5,q6,q7,q8,q9⟩:=q
 exact ⟨qem p0 q0 h0,qem p1 q1 h1,qem p2 q2 h2,qem p3 q3 h3,qem p4 q4 h4,qem p5 q5 h5,qem p6 q6 h6,qem p7 q7 h7,qem p8 q8 h8,qem p9 q9 h9⟩
theorem qga {a b:RP} (h:repM a=repM b) (na:NN a) (nb:NN b):qkb a b=true:=by
 unfold repM at h
 injection h with h1 h
 injection h with h2 h
 injection h with h3 h
 injection h with h4 h
 injection h with h5 h
 injection h with h6 h
 injection h with h7 h
 injection h with h8 h9
 injection h1 with h0 h1
 have f1:=qml (P:=nnT) (fun _ _=>it_inj) h8 na.it nb.it
 have f2:=qml (P:=nnS) (fun _ _=>se_inj) h9 na.ss nb.ss
 have e0:qmn a b:=head_inj h0 h1 na.h nb.h
 have e1:qij a.e.z b.e.z=true:=decide_eq_true (qpn (P:=nnE) (R:=qkk) (fun _ _=>ent_inj) h2 na.e nb.e)
 have e2:=qkv h3 na.o nb.o
 have e3:qrv a.k.z b.k.z=true:=by
  obtain ⟨s,g⟩:=qpn (P:=nnK) (R:=fun x y=>x.kn=y.kn) (fun _ _=>kn_inj) h4 na.k nb.k
  exact qek s fun i hi=>by rw [g i hi];exact qjx _
 have e4:sameM a.m.z b.m.z=true:=by
  obtain ⟨s,g⟩:=qpn (P:=fun x:RW Int=>nnI x.z) (R:=fun x y=>x.z=y.z) (fun _ _ hx hy h=>int_inj h hx hy) h5 na.m nb.m
  exact qek s fun i hi=>decide_eq_true (g i hi)
 have e5:=int_inj h6 na.fr nb.fr
 have e6:sameD a.d.z b.d.z=true:=by
  obtain ⟨s,g⟩:=qpn (P:=fun x:RW (Int×Int)=>nnP x.z) (R:=fun x y=>x.z=y.z) (fun _ _ hx hy h=>qkv h hx hy) h7 na.d nb.d
  exact qek s fun i hi=>decide_eq_true (g i hi)
 unfold qkb qha
 rw [decide_eq_true e0,e1,e3,e4,e6,e2,e5,decide_eq_true f1,decide_eq_true f2]
 simp
def itB (x:IT):Bool:=decide (1≤x.id∧x.id≤99999∧0≤x.free∧0≤x.held∧0≤x.gone∧x.free + x.held + x.gone≤1000000)
def itsB (z:Array IT):Bool:=decide (z.size≤20) && (List.range z.size).all fun i=>itB z[i]! && decide (0 < i→z[i - 1]!.id < z[i]!.id)
def seB (x:SS):Bool:=decide (1≤x.cl∧x.cl≤99999∧1≤x.seq∧x.seq≤99999∧x.rep.size≤300)
def sesB (z:Array SS):Bool:=decide (z.size≤20) && (List.range z.size).all fun i=>seB z[i]! && decide (0 < i→z[i - 1]!.cl < z[i]!.cl)
def chkW (r:RP):Bool:=chkR r && (itsB r.it.z && sesB r.ss.z)
theorem qjk {z:Array IT}:itsB z=true↔z.size≤20∧∀ i,i < z.size→itB z[i]! = true∧(0 < i→z[i - 1]!.id < z[i]!.id):=by
 unfold itsB
 rw [Bool.and_eq_true,decide_eq_true_eq,List.all_eq_true]
 constructor
 ·rintro ⟨h,g⟩;exact ⟨h,fun i hi=>by have:=g i (List.mem_range.2 hi);rwa [Bool.and_eq_true,decide_eq_true_eq] at this⟩
 ·rintro ⟨h,g⟩;exact ⟨h,fun i hi=>by rw [Bool.and_eq_true,decide_eq_true_eq];exact g i (List.mem_range.1 hi)⟩
theorem qjl {z:Array SS}:sesB z=true↔z.size≤20∧∀ i,i < z.size→seB z[i]! = true∧(0 < i→z[i - 1]!.cl < z[i]!.cl):=by
 unfold sesB
 rw [Bool.and_eq_true,decide_eq_true_eq,List.all_eq_true]
 constructor
 ·rintro ⟨h,g⟩;exact ⟨h,fun i hi=>by have:=g i (List.mem_range.2 hi);rwa [Bool.and_eq_true,decide_eq_true_eq] at this⟩
 ·rintro ⟨h,g⟩;exact ⟨h,fun i hi=>by rw [Bool.and_eq_true,decide_eq_true_eq];exact g i (List.mem_range.1 hi)⟩
def qed (r:RP):Bool:=decide (500 < r.o.z.size) || (anyN r.k.z.size (fun i=>decide (500 < r.k.z[i]!.r.z.size∨500 < r.k.z[i]!.a.z.size)) || anyN r.d.z.size fun i=>decide (500 < r.d.z[i]!.z.size))
end Go.Proofs.YtnmojicfmcbgmaaGreatDoor
namespace Go.Proofs.YtnmojicfmcbgmaaGreatDoor
open Go.RowKit Go.Sort Go.Lib
set_option maxRecDepth 100000
attribute [local go_sem ↓] qbc qba
attribute [local go_sem] qbt qci
def qmm (d:Array KE):Array Int:=d.map (·.base)
theorem qgl (d:Array KE):(qmm d).size=d.size:=by simp [qmm]
theorem basesK_at (d:Array KE) {j:Nat} (h:j < d.size):(qmm d)[j]! = d[j]!.base:=by
 rw [getElem!_pos _ j (by rw [qgl];exact h),getElem!_pos d j h]
 simp [qmm]
theorem qjm {r:RP} (h:chkR r=true):(r.k.z.size:Int)=r.n:=((qdz r).1 h).1.2.2.2.2.2.2.2.2.2.2.2.1
end Go.Proofs.YtnmojicfmcbgmaaGreatDoor
namespace Go.Proofs.YtnmojicfmcbgmaaGreatDoor
open Go.RowKit Go.Sort Go.Lib
theorem up_all {d:Array (Int×Int)} (h:∀ i,i < d.size→0 < i→d[i - 1]!.1 < d[i]!.1):∀ j i,i < j→j < d.size→d[i]!.1 < d[j]!.1:=by
 intro j
 induction j with
 | zero=>intro i hij;omega
 | succ j ih =>
   intro i hij hj
   have h1:=h (j + 1) hj (by omega)
   rw [Nat.add_sub_cancel] at h1
   rcases Nat.lt_or_ge i j with h' | h'
   ·have:=ih i h' (by omega);omega
   ·obtain rfl:i=j:=by omega
    exact h1
theorem qjn (d:Array (Int×Int)) {i:Nat} (hi:i < d.size):d.toList[i]'(by simpa using hi)=d[i]!:=by
 rw [getElem!_pos d i hi];simp
theorem qhn {now floor:Int} {d:Array (Int×Int)}:clkB now floor d=true↔(0≤floor∧floor≤now∧now≤1000000)∧d.toList.Pairwise (fun x y=>x.1 < y.1)∧(∀ x ∈ d.toList,floor < x.1∧x.1≤now∧okI x.2=true)∧(d.toList.map (·.2)).Nodup:=by
 rw [qpc]
 constructor
 ·rintro ⟨h,g⟩
  have g1:∀ i,i < d.size→(floor < d[i]!.1∧(0 < i→d[i - 1]!.1 < d[i]!.1)∧d[i]!.1≤now)∧(10≤d[i]!.2∧d[i]!.2≤999999∧d[i]!.2 % 10≠0)∧¬ (idsU d i).contains d[i]!.2=true:=fun i hi=>by
   have:=g i hi
   unfold qhs at this
   simp only [Bool.and_eq_true,decide_eq_true_eq,Bool.not_eq_true',Bool.not_eq_true] at this ⊢
   exact ⟨this.1.1,this.1.2,this.2⟩
  have hup:=up_all (d:=d) (fun i hi h0=>(g1 i hi).1.2.1 h0)
  refine ⟨h,?_,?_,?_⟩
  ·rw [List.pairwise_iff_getElem]
   intro i j hi hj hij
   have hi':i < d.size:=by simpa using hi
   have hj':j < d.size:=by simpa using hj
   rw [qjn d hi',qjn d hj']
   exact hup j i hij hj'
  ·intro x hx
   obtain ⟨i,hi,rfl⟩:=List.mem_iff_getElem.1 hx
   have hi':i < d.size:=by simpa using hi
   rw [qjn d hi']
   obtain ⟨a,b,_⟩:=g1 i hi'
   exact ⟨a.1,a.2.2,by unfold okI;exact decide_eq_true b⟩
  ·unfold List.Nodup
   rw [List.pairwise_map,List.pairwise_iff_getElem]
   intro i j hi hj hij he
   have hi':i < d.size:=by simpa using hi
   have hj':j < d.size:=by simpa using hj
   rw [qjn d hi',qjn d hj'] at he
   exact (g1 j hj').2.2 ((qhk (by omega)).2 ⟨i,hij,he⟩)
 ·rintro ⟨h,hp,ha,hn⟩
  refine ⟨h,fun i hi=>?_⟩
  have hm:d[i]! ∈ d.toList:=by rw [getElem!_pos d i hi];simp
  obtain ⟨a,b,c⟩:=ha _ hm
  unfold okI at c
  have hc:(idsU d i).contains d[i]!.2=false:=by
   rw [Bool.eq_false_iff]
   intro hc
   obtain ⟨j,hj,e⟩:=(qhk (by omega)).1 hc
   unfold List.Nodup at hn
   rw [List.pairwise_map,List.pairwise_iff_getElem] at hn
   refine hn j i (by simp;omega) (by simp;omega) hj ?_
   rw [qjn d (by omega),qjn d hi]
   exact e
  unfold qhs
  have hc':((d.toList.take i).map Prod.snd).contains d[i]!.2=false:=hc
  rw [hc',c,Bool.and_true,decide_eq_true (show floor < d[i]!.1∧(0 < i→d[i - 1]!.1 < d[i]!.1)∧d[i]!.1≤now from ⟨a,fun h0=>?_,b⟩)]
  ·rfl
  ·rw [List.pairwise_iff_getElem] at hp
   have:=hp (i - 1) i (by simp;omega) (by simp;omega) (by omega)
   rwa [qjn d (by omega),qjn d hi] at this
theorem addA_of {k:KN} {now floor:Int} {own:Array (Int×Int)} (hk:ChkP k) (hc:clkB now floor own=true):AddA k floor now own:=by
 obtain ⟨⟨a,b,c⟩,hp,ha,_⟩:=qhn.1 hc
 exact ⟨hk,a,b,c,(qcz _ _ _).2 ⟨hp,ha⟩⟩
def keptO (own:Array (Int×Int)) (floor:Int):Array (Int×Int):=(own.toList.filter fun a=>!decide (a.1≤floor)).toArray
theorem clk_kept {now floor f2:Int} {own:Array (Int×Int)} (hc:clkB now floor own=true) (h1:floor≤f2) (h2:f2≤now):clkB now f2 (keptO own f2)=true:=by
 obtain ⟨⟨a,b,c⟩,hp,ha,hn⟩:=qhn.1 hc
 refine qhn.2 ⟨⟨by omega,h2,c⟩,?_,?_,?_⟩
 ·show List.Pairwise _ (List.filter _ _)
  exact hp.filter _
 ·intro x hx
  have hx':x ∈ own.toList.filter fun a=>!decide (a.1≤f2):=hx
  obtain ⟨m,q⟩:=List.mem_filter.1 hx'
  have:=ha x m
  simp at q
  exact ⟨q,this.2⟩
 ·show List.Nodup (List.map _ (List.filter _ _))
  unfold List.Nodup at hn ⊢
  rw [List.pairwise_map] at hn ⊢
  exact hn.filter _
theorem qdr {d:Array Int} {n:Int}:qbl d n=0↔qgh n≠0∧(d.size:Int)=n∧∀ x ∈ d.toList,0≤x∧x≤1000000:=by
 unfold qbl qcx
 by_cases h:qgh n=0
 ·simp [h]
 ·by_cases h2:(d.size:Int)=n
  ·by_cases h3:(d.toList.any fun t=>decide (t < 0∨1000000 < t))=true
   ·rw [if_pos (Or.inr (Or.inr h3))]
    simp only [List.any_eq_true,decide_eq_true_eq] at h3
    obtain ⟨x,hx,h3⟩:=h3
    constructor
    ·intro h0;cases h0
    ·rintro ⟨_,_,g⟩
     have:=g x hx
     omega
   ·rw [if_neg (by rintro (a | a | a);exact h a;exact a h2;exact h3 a)]
    refine ⟨fun _=>⟨h,h2,fun x hx=>?_⟩,fun _=>rfl⟩
    refine Classical.byContradiction fun hc=>h3 ?_
    simp only [List.any_eq_true,decide_eq_true_eq]
    exact ⟨x,hx,by omega⟩
  ·rw [if_pos (Or.inr (Or.inl h2))]
   constructor
   ·intro h0;cases h0
   ·rintro ⟨_,g,_⟩;exact absurd g h2
theorem qpo {d1 d2:Array Int} {n:Int} (h1:qbl d1 n=0) (h2:qbl d2 n=0):qbl (qkg d1 d2) n=0:=by
 obtain ⟨a,b,c⟩:=qdr.1 h1
 obtain ⟨_,b2,c2⟩:=qdr.1 h2
 refine qdr.2 ⟨a,by rw [qgj];omega,fun x hx=>?_⟩
 obtain ⟨i,hi,rfl⟩:=List.mem_iff_getElem.1 hx
 have hi':i < (qkg d1 d2).size:=by simpa using hi
 have hi2:i < max d1.size d2.size:=by rwa [qgj] at hi'
 have e:(qkg d1 d2).toList[i]=mrgAt d1 d2 i:=by
  have:=mergeN_at d1 d2 i hi2
  rw [getElem!_pos _ i hi'] at this
  simpa using this
 rw [e]
 unfold mrgAt
 rw [if_pos (by omega),if_pos (by omega)]
 have q1:=c d1[i]! (by rw [getElem!_pos d1 i (by omega)];simp)
 have q2:=c2 d2[i]! (by rw [getElem!_pos d2 i (by omega)];simp)
 omega
theorem qdg {α:Type} [Inhabited α] {d:Array α} {x:α} (h:x ∈ d.toList):∃ i,i < d.size∧d[i]! = x:=by
 obtain ⟨i,hi,rfl⟩:=List.mem_iff_getElem.1 h
 have hi':i < d.size:=by simpa using hi
 exact ⟨i,hi',by rw [getElem!_pos d i hi'];simp⟩
theorem qtx {k:Array KE} {n:Int} (hn:3≤n∧n≤9) (hs:(k.size:Int)=n) (h:∀ i,i < k.size→chkB k[i]!.kn=true):qbl (qmm k) n=0:=by
 refine qdr.2 ⟨?_,by rw [qgl];exact hs,fun x hx=>?_⟩
 ·unfold qgh
  first | (rw [if_pos (by omega)];omega) | (rw [if_neg (by omega)];omega) | (split <;> omega)
 ·obtain ⟨i,hi,rfl⟩:=qdg hx
  rw [qgl] at hi
  rw [basesK_at k hi]
  have:=qfw.1 (h i hi)
  exact ⟨this.b0,this.b1⟩
def overB (r:RP) (id:Int):Bool:=(r.e.z.toList.any fun x=>setlB x.ph && (x.id == id)) || doneI r id
def OverR (r:RP) (k:KN) (ids:Array Int):Prop:=∀ x,x ∈ ids.toList↔(x ∈ k.ats.toList.map (·.2)∧overB r x=true)
def colM (m:Array (RW Int)) (c:Nat):Array Int:=m.map fun x=>x.z[c]!
structure RefR (r s:RP):Prop where
 eq:s={ r with k:=s.k,m:=s.m,floor:=s.floor,o:=s.o }
 ks:s.k.z.size=r.k.z.size
 kk:∀ i,i < r.k.z.size→∃ k1 ids,(if (i:Int) + 1=r.self then AddR r.k.z[i]!.kn r.floor r.clock r.o.z k1 else k1=r.k.z[i]!.kn)∧OverR r k1 ids∧SetR k1 ids s.k.z[i]!.kn
 ms:s.m.z.size=r.m.z.size
 mm:∀ i,i < r.m.z.size→s.m.z[i]!.z=if (i:Int) + 1=r.self then qkg r.m.z[i]!.z (qmm s.k.z) else r.m.z[i]!.z
 floor:s.floor=max r.floor (min (leastN (colM s.m.z (r.self.toNat - 1))) r.clock)
 o:s.o.z=keptO r.o.z s.floor
structure FewM (r:RP):Prop where
 c:FewC r
 k:∀ i,i < r.k.z.size→r.k.z[i]!.r.z.size≤400∧r.k.z[i]!.a.z.size≤250
 s:∀ i,i < r.k.z.size→(i:Int) + 1=r.self→r.k.z[i]!.r.z.size≤150∧r.k.z[i]!.a.z.size≤150
 o:r.o.z.size≤150
theorem FewP.m' {r:RP} (h:FewP r):FewM r :=
 have hk:∀ i,i < r.k.z.size→r.k.z[i]!.r.z.size≤100∧r.k.z[i]!.a.z.size≤100:=fun i hi=>qvp.1 (h.kk i hi)
 ⟨h.c,fun i hi=>by have:=hk i hi;omega,fun i hi _=>by have:=hk i hi;omega,by have:=h.o;omega⟩
theorem qho {r:RP} (h:chkR r=true):clkB r.clock r.floor r.o.z=true:=by
 have h15:clkE r.clock r.floor r.o.z=0:=((qdz r).1 h).1.2.2.2.1
 unfold clkE at h15
 cases hc:clkB r.clock r.floor r.o.z
 ·rw [hc] at h15;cases h15
 ·rfl
theorem qpp {r:RP} (h:chkR r=true):∀ i,i < r.k.z.size→chkB r.k.z[i]!.kn=true:=fun i hi=>by
 have h16:chkE r.k.z[i]!.kn=0:=(((qdz r).1 h).2.1.2 i hi).1
 unfold chkE at h16
 cases hc:chkB r.k.z[i]!.kn
 ·rw [hc] at h16;cases h16
 ·rfl
theorem chkR_n {r:RP} (h:chkR r=true):(3≤r.n∧r.n≤9)∧1≤r.self∧r.self≤r.n:=by
 obtain ⟨a,b,c,_⟩:=((qdz r).1 h).1
 have:=(qmi _ _).1 a
 unfold qeb at this
 exact ⟨⟨this.1,this.2.1⟩,b,c⟩
theorem qhb {r:RP} (h:chkR r=true):qhr r.m.z r.n=true:=by
 have h18:qfx r.m.z r.n=0:=((qdz r).1 h).1.2.2.2.2.2.2.2.2.2.2.2.2.1
 unfold qfx at h18
 cases hc:qhr r.m.z r.n
 ·rw [hc] at h18;cases h18
 ·rfl
theorem qhp {m:Array (RW Int)} {n:Int}:qhr m n=true↔(3≤n∧n≤9)∧(m.size:Int)=n∧∀ i,i < m.size→qbl m[i]!.z n=0:=by
 unfold qhr
 rw [Bool.and_eq_true,Bool.and_eq_true,decide_eq_true_eq,decide_eq_true_eq,List.all_eq_true]
 constructor
 ·rintro ⟨⟨a,b⟩,c⟩;exact ⟨a,b,fun i hi=>of_decide_eq_true (c i (List.mem_range.2 hi))⟩
 ·rintro ⟨a,b,c⟩;exact ⟨⟨a,b⟩,fun i hi=>decide_eq_true (c i (List.mem_range.1 hi))⟩
theorem RefR.known {r s:RP} (h:RefR r s) (hc:chkR r=true) (hf:FewM r):∀ i,i < r.k.z.size→chkB s.k.z[i]!.kn=true∧r.k.z[i]!.base≤s.k.z[i]!.base∧s.k.z[i]!.r.z.size≤1000∧s.k.z[i]!.a.z.size≤400:=by
 intro i hi
 obtain ⟨k1,ids,h1,_,h3⟩:=h.kk i hi
 have hk:=qfw.1 (qpp hc i hi)
 have hcl:=qho hc
 have hk1:ChkP k1∧r.k.z[i]!.kn.base≤k1.base:=by
  by_cases hs:(i:Int) + 1=r.self
  ·rw [if_pos hs] at h1
   have hz:r.k.z[i]!.kn.ats.size + r.o.z.size≤400:=by
    have g1:=(hf.s i hi hs).2
    have g2:=hf.o
    show r.k.z[i]!.a.z.size + r.o.z.size≤400
    omega
   have:=grow_add (addA_of hk hcl) h1 hz
   exact ⟨this.1,this.2.1⟩
  ·rw [if_neg hs] at h1
   rw [h1]
   exact ⟨hk,Int.le_refl _⟩
 have h4:=grow_set hk1.1 h3
 obtain ⟨l,_,l2,l3⟩:=h3.ok hk1.1
 have e1:s.k.z[i]!.kn.rs.size≤1000:=Nat.le_trans l3.sz l2
 exact ⟨qfw.2 h4.1,Int.le_trans hk1.2 h4.2.1,e1,h4.1.sz⟩
theorem RefR.fl {r s:RP} (h:RefR r s) (hc:chkR r=true):r.floor≤s.floor∧s.floor≤r.clock:=by
 have h1:=(qhn.1 (qho hc)).1
 rw [h.floor]
 omega
theorem RefR.chk {r s:RP} (h:RefR r s) (hc:chkR r=true) (hf:FewM r):chkR s=true:=by
 have hK:=h.known hc hf
 have hF:=h.fl hc
 have hN:=(chkR_n hc).1
 have hkn:=qjm hc
 have hR:=qhp.1 (qhb hc)
 have hcl:=clk_kept (qho hc) hF.1 hF.2
 obtain ⟨hA,hB,hC⟩:=(qdz r).1 hc
 have en:s.n=r.n:=by rw [h.eq]
 have ef:s.f=r.f:=by rw [h.eq]
 have es:s.self=r.self:=by rw [h.eq]
 have ec:s.clock=r.clock:=by rw [h.eq]
 have eq':s.seq=r.seq:=by rw [h.eq]
 have et:s.ticks=r.ticks:=by rw [h.eq]
 have ee:s.e=r.e:=by rw [h.eq]
 have er:s.fr=r.fr:=by rw [h.eq]
 have ed:s.d=r.d:=by rw [h.eq]
 have e1:s.lt=r.lt:=by rw [h.eq]
 have e2:s.lid=r.lid:=by rw [h.eq]
 have e3:s.count=r.count:=by rw [h.eq]
 have hmb:qbl (qmm s.k.z) r.n=0:=qtx hN (by rw [h.ks];exact hkn) (fun i hi=>(hK i (by rw [←h.ks];exact hi)).1)
 have hrow:qhr s.m.z r.n=true:=by
  refine qhp.2 ⟨hN,by rw [h.ms];exact hR.2.1,fun i hi=>?_⟩
  have hi':i < r.m.z.size:=by rw [←h.ms];exact hi
  rw [h.mm i hi']
  split
  ·exact qpo (hR.2.2 i hi') hmb
  ·exact hR.2.2 i hi'
 obtain ⟨a1,a2,a3,a4,a5,a6,a7,a8,a9,a10,a11,a12,a13,a14,a15⟩:=hA
 refine (qdz s).2 ⟨⟨?_,?_,?_,?_,?_,?_,?_,?_,?_,?_,?_,?_,?_,?_,?_⟩,⟨?_,?_⟩,?_⟩
 ·rw [en,ef];exact a1
 ·rw [es];exact a2
 ·rw [es,en];exact a3
 ·unfold clkE
  rw [ec,h.o,if_pos hcl]
 ·rw [eq'];exact a5
 ·rw [eq'];exact a6
 ·rw [et];exact a7
 ·rw [et];exact a8
 ·rw [e3];exact a9
 ·rw [e3];exact a10
 ·rw [ee];exact a11
 ·rw [h.ks,en];exact a12
 ·unfold qfx
  rw [en,if_pos hrow]
 ·rw [er,en];exact a14
 ·rw [ed,en];exact a15
 ·rw [ee,en];exact hB.1
 ·intro i hi
  rw [h.ks] at hi
  have hk:=(hK i hi).1
  refine ⟨?_,?_⟩
  ·exact if_pos hk
  ·rw [ed];exact (hB.2 i hi).2
 ·unfold RckC at hC ⊢
  rw [e1,e2];exact hC
theorem RefR.few {r s:RP} (h:RefR r s) (hc:chkR r=true) (hf:FewM r):FewC s:=by
 have hK:=h.known hc hf
 have hR:=qhp.1 (qhb hc)
 have hkn:=qjm hc
 have ee:s.e=r.e:=by rw [h.eq]
 have er:s.fr=r.fr:=by rw [h.eq]
 have ed:s.d=r.d:=by rw [h.eq]
 refine ⟨?_,?_,?_,?_,?_,?_,?_,?_,?_,?_⟩
 ·rw [ee];exact hf.c.es
 ·rw [ee];exact hf.c.ee
 ·rw [h.o]
  have:=List.length_filter_le (fun a:Int×Int=>!decide (a.1≤s.floor)) r.o.z.toList
  have:=hf.o
  unfold keptO
  simp at *
  omega
 ·rw [h.ks];exact hf.c.k
 ·rw [h.ms];exact hf.c.m
 ·intro i hi
  have hi':i < r.m.z.size:=by rw [←h.ms];exact hi
  rw [h.mm i hi']
  have hz:=hf.c.mm i hi'
  split
  ·rw [qgj,qgl,h.ks]
   have:=hf.c.k
   omega
  ·exact hz
 ·rw [er];exact hf.c.fr
 ·rw [ed];exact hf.c.d
 ·rw [ed];exact hf.c.dd
 ·intro i hi
  rw [h.ks] at hi
  have:=hK i hi
  omega
theorem RefR.own {r s:RP} (h:RefR r s) (hc:chkR r=true) (hf:FewM r) {i:Nat} (hi:i < r.k.z.size) (hs:(i:Int) + 1=r.self) (he:s.k.z[i]!.a.z.size=0) (hl:r.floor≤r.k.z[i]!.base):r.clock≤s.k.z[i]!.base:=by
 obtain ⟨k1,ids,h1,_,h3⟩:=h.kk i hi
 have hk:=qfw.1 (qpp hc i hi)
 rw [if_pos hs] at h1
 have hz:r.k.z[i]!.kn.ats.size + r.o.z.size≤400:=by
  have g1:=(hf.s i hi hs).2
  have g2:=hf.o
  show r.k.z[i]!.a.z.size + r.o.z.size≤400
  omega
 exact own_mark (addA_of hk (qho hc)) h1 hz h3 he hl
end Go.Proofs.YtnmojicfmcbgmaaGreatDoor
namespace Go.Proofs.YtnmojicfmcbgmaaGreatDoor
open Go.RowKit Go.Sort Nb
def may6 (x:Int):Prop:=0≤x∧x≤1000000
theorem qty {x:Int} (h:may6 x):x.toNat≤1000000:=by unfold may6 at h;omega
theorem qkw {d:Array (Int×Int)} (h:∀ x ∈ d.toList,may6 x.1∧may6 x.2) (hs:d.size≤500):(rowC 2 (by decide)).ok (qbg d)∧nnP d:=by
 have hl:∀ g ∈ qbg d,g.length=2:=fun g hg=>by
  obtain ⟨x,_,rfl⟩:=List.mem_map.1 hg
  rfl
 refine ⟨⟨fun g hg=>⟨hl g hg,fun y hy=>?_⟩,?_⟩,fun x hx=>⟨(h x hx).1.1,(h x hx).2.1⟩⟩
 ·obtain ⟨x,hx,rfl⟩:=List.mem_map.1 hg
  have h1:=qty (h x hx).1
  have h2:=qty (h x hx).2
  unfold natP at hy
  simp only [List.mem_cons,List.not_mem_nil,or_false] at hy
  rcases hy with rfl | rfl <;> omega
 ·have:=qcp 2 (qbg d) hl
  have e:(qbg d).length=d.size:=by unfold qbg;simp
  omega
theorem ints_ok {d:Array Int} (h:∀ x ∈ d.toList,may6 x) (hs:d.size≤1000):(rowC 1 (by decide)).ok (intM d)∧nnI d:=by
 have hl:∀ g ∈ intM d,g.length=1:=fun g hg=>by
  obtain ⟨x,_,rfl⟩:=List.mem_map.1 hg
  rfl
 refine ⟨⟨fun g hg=>⟨hl g hg,fun y hy=>?_⟩,?_⟩,fun x hx=>(h x hx).1⟩
 ·obtain ⟨x,hx,rfl⟩:=List.mem_map.1 hg
  have h1:=qty (h x hx)
  simp only [List.mem_cons,List.not_mem_nil,or_false] at hy
  omega
 ·have:=qcp 1 (intM d) hl
  have e:(intM d).length=d.size:=by unfold intM;simp
  omega
theorem ent_ok {e:EN} (h:qgc e=true):enC.ok (entM e)∧nnE e:=by
 unfold qgc at h
 simp only [Bool.and_eq_true,decide_eq_true_eq] at h
 obtain ⟨⟨⟨⟨h1,h2⟩,_⟩,h4,h5⟩,_⟩:=h
 unfold qmp at h1
 unfold qld at h2
 have ha:∀ a ∈ e.z.toList,may6 a.kind∧may6 a.frm∧may6 a.bal∧may6 a.t∧may6 a.abal∧may6 a.ph:=fun a ha=>by
  obtain ⟨i,hi,rfl⟩:=qdg ha
  unfold qkj at h4
  rw [List.all_eq_true] at h4
  have:=h4 i (List.mem_range.2 hi)
  rw [Bool.and_eq_true] at this
  have:=this.1
  unfold ackB at this
  rw [decide_eq_true_eq] at this
  unfold may6
  omega
 have hl:∀ g ∈ e.z.toList.map ackN,g.length=6:=fun g hg=>by
  obtain ⟨x,_,rfl⟩:=List.mem_map.1 hg
  rfl
 refine ⟨⟨⟨rfl,fun x hx=>?_⟩,?_,⟨fun g hg=>⟨hl g hg,fun y hy=>?_⟩,?_⟩⟩,by omega,fun a h=>?_⟩
 ·show x≤1000000
  have hx':x ∈ ent8 e:=hx
  unfold ent8 at hx'
  simp only [List.mem_cons,List.not_mem_nil,or_false] at hx'
  omega
 ·show e.pay.data.toList.length≤300
  have:=h1.2.2.2.2.2.2.2
  simpa using this
 ·obtain ⟨x,hx,rfl⟩:=List.mem_map.1 hg
  have h9:=ha x hx
  unfold may6 at h9
  unfold ackN at hy
  simp only [List.mem_cons,List.not_mem_nil,or_false] at hy
  omega
 ·have:=qcp 6 (e.z.toList.map ackN) hl
  have e1:(e.z.toList.map ackN).length=e.z.size:=by simp
  have:(e.z.toList.map ackN).flatten.length≤1000:=by omega
  exact this
 ·have:=ha a h
  unfold may6 at this
  unfold nnA
  omega
theorem qpq {d:Array (Int×Int)} (h:qaw d=0):∀ x ∈ d.toList,may6 x.1∧may6 x.2:=fun x hx=>by
 have:=(NL.of_set h).1 x hx
 unfold may6
 omega
theorem qpr {n:Int} (h:okI n=true):may6 n:=by
 unfold okI at h
 rw [decide_eq_true_eq] at h
 unfold may6
 omega
theorem kn_ok {k:KE} (h:chkB k.kn=true) (h1:k.r.z.size≤500) (h2:k.a.z.size≤500):knC.ok (knM k)∧nnK k:=by
 have hc:=qfw.1 h
 have b0:0≤k.base:=hc.b0
 have b1:k.base≤1000000:=hc.b1
 obtain ⟨p1,p2⟩:=qkw (qpq hc.rs) h1
 have ha:∀ x ∈ k.a.z.toList,may6 x.1∧may6 x.2:=fun x hx=>by
  obtain ⟨a,b,c⟩:=((qcz _ _ _).1 hc.up).2 x hx
  exact ⟨⟨by have:k.base < x.1:=a;omega,b⟩,qpr c⟩
 obtain ⟨q1,q2⟩:=qkw ha h2
 refine ⟨⟨?_,p1,q1⟩,b0,p2,q2⟩
 show k.base.toNat≤1000000
 omega
theorem it_ok {x:IT} (h:itB x=true):(nC.vec 4).ok (itM x)∧nnT x:=by
 unfold itB at h
 rw [decide_eq_true_eq] at h
 refine ⟨⟨rfl,fun y hy=>?_⟩,by unfold nnT;omega⟩
 show y≤1000000
 unfold itM at hy
 simp only [List.mem_cons,List.not_mem_nil,or_false] at hy
 omega
theorem se_ok {x:SS} (h:seB x=true):seC.ok (seM x)∧nnS x:=by
 unfold seB at h
 rw [decide_eq_true_eq] at h
 refine ⟨⟨⟨rfl,fun y hy=>?_⟩,?_⟩,by unfold nnS;omega⟩
 ·show y≤1000000
  have hy':y ∈ [x.cl.toNat,x.seq.toNat]:=hy
  simp only [List.mem_cons,List.not_mem_nil,or_false] at hy'
  omega
 ·show x.rep.data.toList.length≤300
  have:=h.2.2.2.2
  simpa using this
theorem qwo {α β:Type} {c:Cod β} {f:α→β} {d:Array α} {n:Nat} (hn:d.size=n) (h:∀ x ∈ d.toList,c.ok (f x)):(c.vec n).ok (d.toList.map f):=by
 refine ⟨by simpa using hn,fun y hy=>?_⟩
 obtain ⟨x,hx,rfl⟩:=List.mem_map.1 hy
 exact h x hx
theorem qtz {α β:Type} {c:Cod β} {f:α→β} {d:Array α} {n:Nat} {hn:n≤9223372036854775807} (hs:d.size≤n) (h:∀ x ∈ d.toList,c.ok (f x)):(c.list n hn).ok (d.toList.map f):=by
 have hl:(d.toList.map f).length=d.size:=by simp
 exact ⟨by show (d.toList.map f).length≤n;omega,rfl,(qwo rfl h).2⟩
theorem rep_ok {r:RP} (h:chkW r=true) (hw:qed r=false):repC.ok (repM r)∧NN r:=by
 unfold chkW at h
 rw [Bool.and_eq_true,Bool.and_eq_true] at h
 obtain ⟨hc,hi,hs⟩:=h
 unfold qed at hw
 simp only [Bool.or_eq_false_iff,decide_eq_false_iff_not,qfz] at hw
 obtain ⟨w1,w2,w3⟩:=hw
 have hn:=chkR_n hc
 have hkn:=qjm hc
 have hdn:=qwn hc
 obtain ⟨clk1,_,clk3,_⟩:=qhn.1 (qho hc)
 have hm:=qhp.1 (qhb hc)
 obtain ⟨⟨a1,a2,a3,a4,a5,a6,a7,a8,a9,a10,a11,a12,a13,a14,a15⟩,hB,hC⟩:=(qdz r).1 hc
 have hsz:=(qmi _ _).1 a1
 unfold qeb at hsz
 have hfr:=(qdr.1 a14).2
 have ht:chkT r.e.z=true:=by
  unfold tabE at a11
  cases hx:chkT r.e.z
  ·rw [hx] at a11;cases a11
  ·rfl
 have ht2:=qin.1 ht
 have hl:may6 r.lt∧may6 r.lid:=by
  have hf:finB r=true:=by
   have:=hc
   unfold chkR at this
   rw [Bool.and_eq_true] at this
   exact this.2
  unfold finB at hf
  rw [Bool.and_eq_true] at hf
  have:=hf.2
  unfold lastB at this
  rw [decide_eq_true_eq] at this
  unfold may6
  omega
 have E:∀ x ∈ r.e.z.toList,enC.ok (entM x)∧nnE x:=fun x hx=>by
  obtain ⟨i,h1,rfl⟩:=qdg hx
  have:=ht2.2 i h1
  unfold atT at this
  rw [Bool.and_eq_true] at this
  exact ent_ok this.1
 have O:=qkw (d:=r.o.z) (fun x hx=>by
  obtain ⟨p1,p2,p3⟩:=clk3 x hx
  exact ⟨⟨by omega,by omega⟩,qpr p3⟩) (by omega)
 have K:∀ x ∈ r.k.z.toList,knC.ok (knM x)∧nnK x:=fun x hx=>by
  obtain ⟨i,h1,rfl⟩:=qdg hx
  have:=w2 i h1
  exact kn_ok (qpp hc i h1) (by omega) (by omega)
 have M:∀ x ∈ r.m.z.toList,(rowC 1 (by decide)).ok (intM x.z)∧nnI x.z:=fun x hx=>by
  obtain ⟨i,h1,rfl⟩:=qdg hx
  have:=qdr.1 (hm.2.2 i h1)
  exact ints_ok this.2.2 (by have:=this.2.1;omega)
 have F:=ints_ok (d:=r.fr.z) hfr.2 (by have:=hfr.1;omega)
 have D:∀ x ∈ r.d.z.toList,(rowC 2 (by decide)).ok (qbg x.z)∧nnP x.z:=fun x hx=>by
  obtain ⟨i,h1,rfl⟩:=qdg hx
  have:=w3 i h1
  exact qkw (qpq (hB.2 i (by omega)).2.1) (by omega)
 have hi2:=qjk.1 hi
 have hs2:=qjl.1 hs
 have I:∀ x ∈ r.it.z.toList,(nC.vec 4).ok (itM x)∧nnT x:=fun x hx=>by
  obtain ⟨i,h1,rfl⟩:=qdg hx
  exact it_ok (hi2.2 i h1).1
 have S:∀ x ∈ r.ss.z.toList,seC.ok (seM x)∧nnS x:=fun x hx=>by
  obtain ⟨i,h1,rfl⟩:=qdg hx
  exact se_ok (hs2.2 i h1).1
 have hnn:NN r:=⟨by unfold may6 at hl;omega,fun x hx=>(E x hx).2,O.2,fun x hx=>(K x hx).2,fun x hx=>(M x hx).2,F.2,fun x hx=>(D x hx).2,fun x hx=>(I x hx).2,fun x hx=>(S x hx).2⟩
 refine ⟨⟨⟨?_,rfl,fun x hx=>?_⟩,qtz (by have:=ht2.1;omega) (fun x hx=>(E x hx).1),O.1,qwo (by show r.k.z.size=r.n.toNat;omega) (fun x hx=>(K x hx).1),qwo (by show r.m.z.size=r.n.toNat;have:=hm.2.1;omega) (fun x hx=>(M x hx).1),F.1,qwo (by show r.d.z.size=r.n.toNat;omega) (fun x hx=>(D x hx).1),qtz (by have:=hi2.1;omega) (fun x hx=>(I x hx).1),qtz (by have:=hs2.1;omega) (fun x hx=>(S x hx).1)⟩,hnn⟩
 ·show r.n.toNat≤9
  omega
 ·show x≤1000000
  have hx':x ∈ qpg r:=hx
  unfold qpg at hx'
  simp only [List.mem_cons,List.not_mem_nil,or_false] at hx'
  unfold may6 at hl
  omega
end Go.Proofs.YtnmojicfmcbgmaaGreatDoor
namespace Go.Proofs.YtnmojicfmcbgmaaGreatDoor
open Go.RowKit Go.Sort Go.Lib
set_option maxRecDepth 100000
theorem bytes_eq {a b:ByteArray} (h:a.toList=b.toList):a=b:=by
 rw [ByteArray.toList_eq,ByteArray.toList_eq] at h
 exact ByteArray.ext (Array.toList_inj.1 h)
theorem neIt (x y:IT) (w:World):(binOp .neq 84 (.agg #[.int .i64 x.id,.int .i64 x.free,.int .i64 x.held,.int .i64 x.gone]) (.agg #[.int .i64 y.id,.int .i64 y.free,.int .i64 y.held,.int .i64 y.gone])).run Tryz.prog w=.ok (.bool (!decide (x=y))) w:=by
 have hS:Tryz.prog.underlying 84 = some (.struct (Tryz.prog.fieldsOf 84)):=by kernel_rfl
 have hp:Tryz.prog.stoodInHeld 84 = false:=by kernel_rfl
 have u3:=Tryz.underlying3
 rw [run_neq_struct,show (10000:Nat)=9999 + 1 from rfl,run_equalIn_agg w 9999 84 _ _ hS hp]
 simp only [Program.fieldsOf,Tryz.underlying84]
 go_simp
 obtain ⟨x1,x2,x3,x4⟩:=x
 obtain ⟨y1,y2,y3,y4⟩:=y
 by_cases h1:x1=y1 <;> by_cases h2:x2=y2 <;> by_cases h3:x3=y3 <;> by_cases h4:x4=y4 <;> simp [h1,h2,h3,h4]
theorem neSs (x y:SS) (w:World):(binOp .neq 86 (.agg #[.int .i64 x.cl,.int .i64 x.seq,.string x.rep]) (.agg #[.int .i64 y.cl,.int .i64 y.seq,.string y.rep])).run Tryz.prog w=.ok (.bool (!decide (x=y))) w:=by
 have hS:Tryz.prog.underlying 86 = some (.struct (Tryz.prog.fieldsOf 86)):=by kernel_rfl
 have hp:Tryz.prog.stoodInHeld 86 = false:=by kernel_rfl
 have u3:=Tryz.underlying3
 have u9:=Tryz.underlying9
 rw [run_neq_struct,show (10000:Nat)=9999 + 1 from rfl,run_equalIn_agg w 9999 86 _ _ hS hp]
 simp only [Program.fieldsOf,Tryz.underlying86]
 go_simp
 obtain ⟨x1,x2,x3⟩:=x
 obtain ⟨y1,y2,y3⟩:=y
 by_cases h1:x1=y1 <;> by_cases h2:x2=y2 <;> by_cases h3:x3=y3 <;> simp [h1,h2,h3]
 exact fun h=>h3 (bytes_eq h)
set_option maxHeartbeats 4000000 in
theorem stMay_any (x:IT) (w:World):Calls Tryz.prog 168 #[.agg (qdc x).toArray] w fun e w'=>e=.returned (.bool (itB x))∧Below w.heap.size w w':=by
 have HB:Hid (∀ o,Below w.heap.size w (w.alloc o)):=hI (fun o=>bel1 w o)
 have hw1:0≤x.free∧x.free≤1000000→0≤x.held∧x.held≤1000000→IntKind.i64.wrap (x.free + x.held)=x.free + x.held:=fun _ _=>IntWalk.i64_in _ (by omega)
 have hw2:0≤x.free∧x.free≤1000000→0≤x.held∧x.held≤1000000→0≤x.gone∧x.gone≤1000000→IntKind.i64.wrap (x.free + x.held + x.gone)=x.free + x.held + x.gone:=fun _ _ _=>IntWalk.i64_in _ (by omega)
 have HW1:=hI hw1
 have HW2:=hI hw2
 clear hw1 hw2
 simp only [qdc]
 go_enter Tryz.func168,Tryz.ntmps168
 go_wp2
 all_goals
  go_ret
  refine ⟨qag ?_,HB.out _⟩
  unfold itB
  grind
def numO (n:Int):Bool:=decide (1≤n∧n≤99999)
theorem seNum_any (n:Int) (w:World):Calls Tryz.prog 191 #[.int .i64 n] w fun e w'=>e=.returned (.bool (numO n))∧w=w':=by
 go_enter Tryz.func191,Tryz.ntmps191
 go_wp2
 all_goals
  go_ret
  refine ⟨qag ?_,rfl⟩
  unfold numO
  grind
theorem seMay_any (x:SS) (w:World):Calls Tryz.prog 169 #[.agg (qcw x).toArray] w fun e w'=>e=.returned (.bool (seB x))∧Below w.heap.size w w':=by
 have HB:Hid (∀ o,Below w.heap.size w (w.alloc o)):=hI (fun o=>bel1 w o)
 simp only [qcw]
 go_enter Tryz.func169,Tryz.ntmps169
 go_wp2_with (go_at_call 191;refine (seNum_any _ _).mono ?_;rintro _ _ ⟨rfl,rfl⟩)
 all_goals
  go_ret
  refine ⟨qag ?_,HB.out _⟩
  unfold seB
  unfold numO at *
  grind
def itsE (d:Array IT):Int:=if itsB d=true then 0 else 2
theorem qwp {d:Array IT} (h:d.size≤20) (g:∀ i,i < d.size→itB d[i]! = true∧(0 < i→d[i - 1]!.id < d[i]!.id)):itsE d=0:=by
 unfold itsE;rw [if_pos (qjk.2 ⟨h,g⟩)]
theorem itsE_no {d:Array IT} (i:Nat) (hi:i < d.size) (h:¬ (itB d[i]! = true∧(0 < i→d[i - 1]!.id < d[i]!.id))):itsE d=2:=by
 unfold itsE;rw [if_neg];intro hc;exact h ((qjk.1 hc).2 i hi)
theorem qwq {d:Array IT} (h:¬ d.size≤20):itsE d=2:=by
 unfold itsE;rw [if_neg];intro hc;exact h (qjk.1 hc).1
set_option maxHeartbeats 8000000 in
theorem qrw (A:Option Addr) (c:Nat) (d:Array IT) (w:World) (h:RdK qdc 4 w.heap.size w A d) :
 Calls Tryz.prog 116 #[.slice A d.size c] w fun e w'=>e=.returned (.int .i64 (itsE d))∧Below w.heap.size w w':=by
 have HR:=hI h
 clear h
 by_cases hs:d.size≤20
 ·have hs':decide ((20:Int) < (d.size:Int))=false:=decide_eq_false (by omega)
  go_enter Tryz.func116,Tryz.ntmps116
  go_wp2
  go_loopw [10] (fun i wr=>∃ k:Nat,i=.int .i64 k∧k≤d.size∧Hid (∀ j,j < k→itB d[j]! = true∧(0 < j→d[j - 1]!.id < d[j]!.id))∧Hid (Below w.heap.size w wr)) (fun i _=>d.size - (intOf i).toNat)
  case atStart=>exact ⟨0,rfl,Nat.zero_le _,hI (fun j hj=>absurd hj (by omega)),hI (Below.refl _ _)⟩
  case round =>
   obtain ⟨k,rfl,hk,hall,HB⟩:=hrel
   by_cases hlt:k < d.size
   ·have kz:(k:Int) < (d.size:Int):=by omega
    obtain ⟨b,off,rfl,hbl0,f⟩:=(HR.out.below HB.out).at_ (i:=k) (by omega)
    have hbl:=Nat.lt_of_lt_of_le hbl0 HB.out.size
    clear hbl0
    have e0:=f 0 (by omega)
    have e1:=f 1 (by omega)
    have e2:=f 2 (by omega)
    have e3:=f 3 (by omega)
    have HPV:Hid (0 < k→wr.cell? ⟨b,off + (k - 1) * 4,none⟩=some (.int .i64 d[k - 1]!.id)):=fun h0=>by
     obtain ⟨b2,off2,e2,_,f2⟩:=(HR.out.below HB.out).at_ (i:=k - 1) (by omega)
     injection e2 with e2
     injection e2 with eb eo
     subst eb eo
     have:=f2 0 (by omega)
     simp only [qdc,Nat.add_zero,List.getElem!_cons_zero] at this
     exact this
    have HAT:Hid (∀ p:Prop,(itB d[k]! = true∧(0 < k→d[k - 1]!.id < d[k]!.id)→p)→(itB d[k]! = true∧(0 < k→d[k - 1]!.id < d[k]!.id)→p)):=fun _ h=>h
    have HNO:Hid (¬ (itB d[k]! = true∧(0 < k→d[k - 1]!.id < d[k]!.id))→itsE d=2):=itsE_no k hlt
    have HJ:Hid (itB d[k]! = true∧(0 < k→d[k - 1]!.id < d[k]!.id)→∀ j,j < k + 1→itB d[j]! = true∧(0 < j→d[j - 1]!.id < d[j]!.id)):=fun h j hj=>by
     rcases Nat.lt_or_ge j k with h' | h'
     ·exact hall.out j h'
     ·obtain rfl:j=k:=by omega
      exact h
    clear HAT
    generalize d[k - 1]!.id=pid at HPV HNO HJ
    obtain ⟨x,hx⟩:∃ x,d[k]! = x:=⟨_,rfl⟩
    rw [hx] at e0 e1 e2 e3 HNO HJ
    clear f hx
    have HC0:=hI (fun W=>stMay_any x W)
    obtain ⟨g,hgx⟩:∃ g,itB x=g:=⟨_,rfl⟩
    rw [hgx] at HNO HJ HC0
    clear hgx
    simp only [Nat.add_zero,qdc,List.getElem!_cons_zero,List.getElem!_cons_succ] at e0 e1 e2 e3 HC0
    have HX:=hI (BoxW.init wr #[.int .i64 x.id,.int .i64 x.free,.int .i64 x.held,.int .i64 x.gone] 84)
    go_wp2_with fail
    have hl0:b < (wr.alloc (.cells #[.int .i64 x.id,.int .i64 x.free,.int .i64 x.held,.int .i64 x.gone] 84)).heap.size:=by simp;omega
    have HPV1:Hid (0 < k→(wr.alloc (.cells #[.int .i64 x.id,.int .i64 x.free,.int .i64 x.held,.int .i64 x.gone] 84)).cell? ⟨b,off + (k - 1) * 4,none⟩=some (.int .i64 pid)):=fun h0=>(World.cell?_alloc_lt wr _ _ hbl).trans (HPV.out h0)
    have HPV:=HPV1
    clear HPV1 e0 e1 e2 e3
    have HBX:=hI (qad HB.out (.cells #[.int .i64 x.id,.int .i64 x.free,.int .i64 x.held,.int .i64 x.gone] 84))
    generalize wr.alloc (.cells #[.int .i64 x.id,.int .i64 x.free,.int .i64 x.held,.int .i64 x.gone] 84)=w1 at HX HBX HPV hl0 ⊢
    have HC:=hI (fun p:ExtW w1=>HC0.out p.to)
    clear HC0
    have b0:=fun p:ExtW w1=>p.cell (a:=⟨wr.heap.size,0,none⟩) HX.out.lt (HX.out.at_ 0)
    have b1:=fun p:ExtW w1=>p.cell (a:=⟨wr.heap.size,1,none⟩) HX.out.lt (HX.out.at_ 1)
    have b2:=fun p:ExtW w1=>p.cell (a:=⟨wr.heap.size,2,none⟩) HX.out.lt (HX.out.at_ 2)
    have b3:=fun p:ExtW w1=>p.cell (a:=⟨wr.heap.size,3,none⟩) HX.out.lt (HX.out.at_ 3)
    cases g
    ·have HF:Hid (itsE d=2):=HNO.out (by simp)
     clear HPV
     refine qae (by kernel_rfl) (by kernel_rfl) ?_
     repeat (first | go_big_quiet_step ((go_at_call 168;exact Calls.ext_of (HC.out _))) | quiet_step (fail))
     refine wpQuiet_nil ?_
     intro w' hw'
     obtain ⟨⟨W,hbW⟩,hw''⟩:=hw'
     have hw3:w'=W:=hw''
     subst hw3
     have HW:=hI (qac HBX.out hbW)
     clear hbW hw'' b0 b1 b2 b3
     go_wp2
     go_ret
     exact ⟨qaf HF.out.symm,HW.out⟩
    ·by_cases h0:0 < k
     ·have h0':decide ((0:Int) < (k:Int))=true:=decide_eq_true (by omega)
      obtain ⟨k',hk'⟩:∃ k',k' + 1=k:=⟨k - 1,by omega⟩
      have hsub:(k:Int) - 1=(k':Int):=by omega
      have kz':(k':Int) < (d.size:Int):=by omega
      have pv:=HPV.out h0
      rw [show k - 1=k' by omega] at pv
      have pb:=fun p:ExtW w1=>p.cell (a:=⟨b,off + k' * 4,none⟩) hl0 pv
      clear pv HPV
      by_cases hle:x.id≤pid
      ·have hle':decide (x.id≤pid)=true:=decide_eq_true hle
       have HF:Hid (itsE d=2):=HNO.out (fun h=>by have:=h.2 h0;omega)
       clear hle hk'
       refine qae (by kernel_rfl) (by kernel_rfl) ?_
       repeat (first | go_big_quiet_step ((go_at_call 168;exact Calls.ext_of (HC.out _))) | quiet_step (fail))
       refine wpQuiet_nil ?_
       intro w' hw'
       obtain ⟨⟨W,hbW⟩,hw''⟩:=hw'
       have hw3:w'=W:=hw''
       subst hw3
       have HW:=hI (qac HBX.out hbW)
       clear hbW hw'' b0 b1 b2 b3
       go_wp2
       go_ret
       exact ⟨qaf HF.out.symm,HW.out⟩
      ·have hle':decide (x.id≤pid)=false:=decide_eq_false hle
       have HT:Hid (true=true∧(0 < k→pid < x.id)):=⟨rfl,fun _=>by omega⟩
       clear hle hk'
       refine qae (by kernel_rfl) (by kernel_rfl) ?_
       repeat (first | go_big_quiet_step ((go_at_call 168;exact Calls.ext_of (HC.out _))) | quiet_step (fail))
       refine wpQuiet_nil ?_
       intro w' hw'
       obtain ⟨⟨W,hbW⟩,hw''⟩:=hw'
       have hw3:w'=W:=hw''
       subst hw3
       have HW:=hI (qac HBX.out hbW)
       clear hbW hw'' b0 b1 b2 b3
       go_wp2
       go_roundw
       case rel=>exact ⟨k + 1,by go_num,by omega,hI (HJ.out HT.out),HW⟩
       case measure=>simp [intOf];omega
     ·have h0':decide ((0:Int) < (k:Int))=false:=decide_eq_false (by omega)
      have HT:Hid (true=true∧(0 < k→pid < x.id)):=⟨rfl,fun h=>absurd h h0⟩
      clear HPV
      refine qae (by kernel_rfl) (by kernel_rfl) ?_
      repeat (first | go_big_quiet_step ((go_at_call 168;exact Calls.ext_of (HC.out _))) | quiet_step (fail))
      refine wpQuiet_nil ?_
      intro w' hw'
      obtain ⟨⟨W,hbW⟩,hw''⟩:=hw'
      have hw3:w'=W:=hw''
      subst hw3
      have HW:=hI (qac HBX.out hbW)
      clear hbW hw'' b0 b1 b2 b3
      go_wp2
      go_roundw
      case rel=>exact ⟨k + 1,by go_num,by omega,hI (HJ.out HT.out),HW⟩
      case measure=>simp [intOf];omega
   ·have hlt':decide ((k:Int) < (d.size:Int))=false:=decide_eq_false (by omega)
    have HF:Hid (itsE d=0):=qwp hs (fun i hi=>hall.out i (by omega))
    go_wp2
    go_ret
    exact ⟨qaf HF.out.symm,HB.out⟩
 ·have hs':decide ((20:Int) < (d.size:Int))=true:=decide_eq_true (by omega)
  have HF:Hid (itsE d=2):=qwq hs
  go_enter Tryz.func116,Tryz.ntmps116
  go_wp2
  go_ret
  exact ⟨qaf HF.out.symm,Below.refl _ _⟩
def sesE (d:Array SS):Int:=if sesB d=true then 0 else 2
theorem qwr {d:Array SS} (h:d.size≤20) (g:∀ i,i < d.size→seB d[i]! = true∧(0 < i→d[i - 1]!.cl < d[i]!.cl)):sesE d=0:=by
 unfold sesE;rw [if_pos (qjl.2 ⟨h,g⟩)]
theorem sesE_no {d:Array SS} (i:Nat) (hi:i < d.size) (h:¬ (seB d[i]! = true∧(0 < i→d[i - 1]!.cl < d[i]!.cl))):sesE d=2:=by
 unfold sesE;rw [if_neg];intro hc;exact h ((qjl.1 hc).2 i hi)
theorem qws {d:Array SS} (h:¬ d.size≤20):sesE d=2:=by
 unfold sesE;rw [if_neg];intro hc;exact h (qjl.1 hc).1
set_option maxHeartbeats 8000000 in
theorem qrx (A:Option Addr) (c:Nat) (d:Array SS) (w:World) (h:RdK qcw 3 w.heap.size w A d) :
 Calls Tryz.prog 117 #[.slice A d.size c] w fun e w'=>e=.returned (.int .i64 (sesE d))∧Below w.heap.size w w':=by
 have HR:=hI h
 clear h
 by_cases hs:d.size≤20
 ·have hs':decide ((20:Int) < (d.size:Int))=false:=decide_eq_false (by omega)
  go_enter Tryz.func117,Tryz.ntmps117
  go_wp2
  go_loopw [10] (fun i wr=>∃ k:Nat,i=.int .i64 k∧k≤d.size∧Hid (∀ j,j < k→seB d[j]! = true∧(0 < j→d[j - 1]!.cl < d[j]!.cl))∧Hid (Below w.heap.size w wr)) (fun i _=>d.size - (intOf i).toNat)
  case atStart=>exact ⟨0,rfl,Nat.zero_le _,hI (fun j hj=>absurd hj (by omega)),hI (Below.refl _ _)⟩
  case round =>
   obtain ⟨k,rfl,hk,hall,HB⟩:=hrel
   by_cases hlt:k < d.size
   ·have kz:(k:Int) < (d.size:Int):=by omega
    obtain ⟨b,off,rfl,hbl0,f⟩:=(HR.out.below HB.out).at_ (i:=k) (by omega)
    have hbl:=Nat.lt_of_lt_of_le hbl0 HB.out.size
    clear hbl0
    have e0:=f 0 (by omega)
    have e1:=f 1 (by omega)
    have e2:=f 2 (by omega)
    have HPV:Hid (0 < k→wr.cell? ⟨b,off + (k - 1) * 3,none⟩=some (.int .i64 d[k - 1]!.cl)):=fun h0=>by
     obtain ⟨b2,off2,e2,_,f2⟩:=(HR.out.below HB.out).at_ (i:=k - 1) (by omega)
     injection e2 with e2
     injection e2 with eb eo
     subst eb eo
     have:=f2 0 (by omega)
     simp only [qcw,Nat.add_zero,List.getElem!_cons_zero] at this
     exact this
    have HAT:Hid (∀ p:Prop,(seB d[k]! = true∧(0 < k→d[k - 1]!.cl < d[k]!.cl)→p)→(seB d[k]! = true∧(0 < k→d[k - 1]!.cl < d[k]!.cl)→p)):=fun _ h=>h
    have HNO:Hid (¬ (seB d[k]! = true∧(0 < k→d[k - 1]!.cl < d[k]!.cl))→sesE d=2):=sesE_no k hlt
    have HJ:Hid (seB d[k]! = true∧(0 < k→d[k - 1]!.cl < d[k]!.cl)→∀ j,j < k + 1→seB d[j]! = true∧(0 < j→d[j - 1]!.cl < d[j]!.cl)):=fun h j hj=>by
     rcases Nat.lt_or_ge j k with h' | h'
     ·exact hall.out j h'
     ·obtain rfl:j=k:=by omega
      exact h
    clear HAT
    generalize d[k - 1]!.cl=pid at HPV HNO HJ
    obtain ⟨x,hx⟩:∃ x,d[k]! = x:=⟨_,rfl⟩
    rw [hx] at e0 e1 e2 HNO HJ
    clear f hx
    have HC0:=hI (fun W=>seMay_any x W)
    obtain ⟨g,hgx⟩:∃ g,seB x=g:=⟨_,rfl⟩
    rw [hgx] at HNO HJ HC0
    clear hgx
    simp only [Nat.add_zero,qcw,List.getElem!_cons_zero,List.getElem!_cons_succ] at e0 e1 e2 HC0
    have HX:=hI (BoxW.init wr #[.int .i64 x.cl,.int .i64 x.seq,.string x.rep] 86)
    go_wp2_with fail
    have hl0:b < (wr.alloc (.cells #[.int .i64 x.cl,.int .i64 x.seq,.string x.rep] 86)).heap.size:=by simp;omega
    have HPV1:Hid (0 < k→(wr.alloc (.cells #[.int .i64 x.cl,.int .i64 x.seq,.string x.rep] 86)).cell? ⟨b,off + (k - 1) * 3,none⟩=some (.int .i64 pid)):=fun h0=>(World.cell?_alloc_lt wr _ _ hbl).trans (HPV.out h0)
    have HPV:=HPV1
    clear HPV1 e0 e1 e2
    have HBX:=hI (qad HB.out (.cells #[.int .i64 x.cl,.int .i64 x.seq,.string x.rep] 86))
    generalize wr.alloc (.cells #[.int .i64 x.cl,.int .i64 x.seq,.string x.rep] 86)=w1 at HX HBX HPV hl0 ⊢
    have HC:=hI (fun p:ExtW w1=>HC0.out p.to)
    clear HC0
    have b0:=fun p:ExtW w1=>p.cell (a:=⟨wr.heap.size,0,none⟩) HX.out.lt (HX.out.at_ 0)
    have b1:=fun p:ExtW w1=>p.cell (a:=⟨wr.heap.size,1,none⟩) HX.out.lt (HX.out.at_ 1)
    have b2:=fun p:ExtW w1=>p.cell (a:=⟨wr.heap.size,2,none⟩) HX.out.lt (HX.out.at_ 2)
    cases g
    ·have HF:Hid (sesE d=2):=HNO.out (by simp)
     clear HPV
     refine qae (by kernel_rfl) (by kernel_rfl) ?_
     repeat (first | go_big_quiet_step ((go_at_call 169;exact Calls.ext_of (HC.out _))) | quiet_step (fail))
     refine wpQuiet_nil ?_
     intro w' hw'
     obtain ⟨⟨W,hbW⟩,hw''⟩:=hw'
     have hw3:w'=W:=hw''
     subst hw3
     have HW:=hI (qac HBX.out hbW)
     clear hbW hw'' b0 b1 b2
     go_wp2
     go_ret
     exact ⟨qaf HF.out.symm,HW.out⟩
    ·by_cases h0:0 < k
     ·have h0':decide ((0:Int) < (k:Int))=true:=decide_eq_true (by omega)
      obtain ⟨k',hk'⟩:∃ k',k' + 1=k:=⟨k - 1,by omega⟩
      have hsub:(k:Int) - 1=(k':Int):=by omega
      have kz':(k':Int) < (d.size:Int):=by omega
      have pv:=HPV.out h0
      rw [show k - 1=k' by omega] at pv
      have pb:=fun p:ExtW w1=>p.cell (a:=⟨b,off + k' * 3,none⟩) hl0 pv
      clear pv HPV
      by_cases hle:x.cl≤pid
      ·have hle':decide (x.cl≤pid)=true:=decide_eq_true hle
       have HF:Hid (sesE d=2):=HNO.out (fun h=>by have:=h.2 h0;omega)
       clear hle hk'
       refine qae (by kernel_rfl) (by kernel_rfl) ?_
       repeat (first | go_big_quiet_step ((go_at_call 169;exact Calls.ext_of (HC.out _))) | quiet_step (fail))
       refine wpQuiet_nil ?_
       intro w' hw'
       obtain ⟨⟨W,hbW⟩,hw''⟩:=hw'
       have hw3:w'=W:=hw''
       subst hw3
       have HW:=hI (qac HBX.out hbW)
       clear hbW hw'' b0 b1 b2
       go_wp2
       go_ret
       exact ⟨qaf HF.out.symm,HW.out⟩
      ·have hle':decide (x.cl≤pid)=false:=decide_eq_false hle
       have HT:Hid (true=true∧(0 < k→pid < x.cl)):=⟨rfl,fun _=>by omega⟩
       clear hle hk'
       refine qae (by kernel_rfl) (by kernel_rfl) ?_
       repeat (first | go_big_quiet_step ((go_at_call 169;exact Calls.ext_of (HC.out _))) | quiet_step (fail))
       refine wpQuiet_nil ?_
       intro w' hw'
       obtain ⟨⟨W,hbW⟩,hw''⟩:=hw'
       have hw3:w'=W:=hw''
       subst hw3
       have HW:=hI (qac HBX.out hbW)
       clear hbW hw'' b0 b1 b2
       go_wp2
       go_roundw
       case rel=>exact ⟨k + 1,by go_num,by omega,hI (HJ.out HT.out),HW⟩
       case measure=>simp [intOf];omega
     ·have h0':decide ((0:Int) < (k:Int))=false:=decide_eq_false (by omega)
      have HT:Hid (true=true∧(0 < k→pid < x.cl)):=⟨rfl,fun h=>absurd h h0⟩
      clear HPV
      refine qae (by kernel_rfl) (by kernel_rfl) ?_
      repeat (first | go_big_quiet_step ((go_at_call 169;exact Calls.ext_of (HC.out _))) | quiet_step (fail))
      refine wpQuiet_nil ?_
      intro w' hw'
      obtain ⟨⟨W,hbW⟩,hw''⟩:=hw'
      have hw3:w'=W:=hw''
      subst hw3
      have HW:=hI (qac HBX.out hbW)
      clear hbW hw'' b0 b1 b2
      go_wp2
      go_roundw
      case rel=>exact ⟨k + 1,by go_num,by omega,hI (HJ.out HT.out),HW⟩
      case measure=>simp [intOf];omega
   ·have hlt':decide ((k:Int) < (d.size:Int))=false:=decide_eq_false (by omega)
    have HF:Hid (sesE d=0):=qwr hs (fun i hi=>hall.out i (by omega))
    go_wp2
    go_ret
    exact ⟨qaf HF.out.symm,HB.out⟩
 ·have hs':decide ((20:Int) < (d.size:Int))=true:=decide_eq_true (by omega)
  have HF:Hid (sesE d=2):=qws hs
  go_enter Tryz.func117,Tryz.ntmps117
  go_wp2
  go_ret
  exact ⟨qaf HF.out.symm,Below.refl _ _⟩
set_option maxHeartbeats 2000000 in
theorem rSame300 (A1 A2:Option Addr) (c1 c2:Nat) (d1 d2:Array IT) (B1 B2:Nat) (w:World) (h1:RdK qdc 4 B1 w A1 d1) (h2:RdK qdc 4 B2 w A2 d2) (_hn:d1.size≤100000000) (hm:d2.size≤100000000) :
 Calls Tryz.prog 108 #[.slice A1 d1.size c1,.slice A2 d2.size c2] w fun e w'=>e=.returned (.bool (decide (d1=d2)))∧∃ n,w'=w.drewN n:=by
 by_cases hs:d1.size=d2.size
 ·have hb:((d1.size:Int) != (d2.size:Int))=false:=by simp [hs]
  have HS:=hI hs
  have hge:d1.size≤d2.size:=by omega
  clear hs
  go_enter Tryz.func108,Tryz.ntmps108
  go_wp2
  go_loopw [5] (fun i wr=>∃ k n:Nat,k≤d1.size∧i=.int .i64 k∧wr=w.drewN n∧∀ j,j < k→d1[j]! = d2[j]!) (fun i _=>d1.size - (intOf i).toNat)
  case atStart=>exact ⟨0,0,Nat.zero_le _,rfl,rfl,fun j hj=>absurd hj (by omega)⟩
  case round =>
   obtain ⟨k,n,hk,rfl,rfl,hj⟩:=hrel
   have HJ:=hI hj;clear hj
   by_cases hlt:k < d1.size
   ·obtain ⟨b1,o1,rfl,_,f1⟩:=h1.at_ hlt
    obtain ⟨b2,o2,rfl,_,f2⟩:=h2.at_ (i:=k) (by omega)
    have e10:=f1 0 (by omega)
    have e11:=f1 1 (by omega)
    have e12:=f1 2 (by omega)
    have e13:=f1 3 (by omega)
    have e20:=f2 0 (by omega)
    have e21:=f2 1 (by omega)
    have e22:=f2 2 (by omega)
    have e23:=f2 3 (by omega)
    have hnx:=neIt d1[k]! d2[k]!
    generalize hx:d1[k]! = x at e10 e11 e12 e13 hnx
    generalize hy:d2[k]! = y at e20 e21 e22 e23 hnx
    have HXX:=hI hx;clear hx
    have HYY:=hI hy;clear hy
    simp only [Nat.add_zero,qdc,List.getElem!_cons_zero,List.getElem!_cons_succ] at e10 e11 e12 e13 e20 e21 e22 e23
    clear f1 f2
    have kz:(k:Int) < (d1.size:Int):=by omega
    have kz2:(k:Int) < (d2.size:Int):=by omega
    by_cases hxy:x=y
    ·have hd:decide (x=y)=true:=by simp [hxy]
     have HXY:=hI hxy;clear hxy
     rw [hd] at hnx
     clear hd
     go_wp2
     go_quiet (fail)
     go_wp2
     go_roundw
     case rel=>exact ⟨k + 1,_,by omega,by go_num,rfl,fun j hj=>by
      rcases Nat.lt_or_ge j k with h | h
      ·exact HJ.out j h
      ·obtain rfl:j=k:=by omega
       rw [HXX.out,HYY.out];exact HXY.out⟩
     case measure=>simp [intOf];omega
    ·have hd:decide (x=y)=false:=by simp [hxy]
     have HXY:=hI hxy;clear hxy
     rw [hd] at hnx
     clear hd
     go_wp2
     go_quiet (fail)
     go_wp2
     go_ret
     exact ⟨qag (by symm;rw [decide_eq_false_iff_not];rintro rfl;exact HXY.out (by rw [←HXX.out,←HYY.out])),_,World.drewN_drewN _ _ _⟩
   ·have hlt':decide ((k:Int) < (d1.size:Int))=false:=by simp;omega
    go_wp2
    go_ret
    exact ⟨qag (by symm;rw [decide_eq_true_iff];exact qle HS.out fun j hj=>HJ.out j (by omega)),n,rfl⟩
 ·have hb:((d1.size:Int) != (d2.size:Int))=true:=by simp;omega
  have HS:=hI hs
  clear hs
  go_enter Tryz.func108,Tryz.ntmps108
  go_wp2
  go_ret
  exact ⟨qag (by symm;rw [decide_eq_false_iff_not];rintro rfl;exact HS.out rfl),0,rfl⟩
theorem qua (A1 A2:Option Addr) (c1 c2:Nat) (d1 d2:Array IT) (B1 B2:Nat) (w:World) (h1:RdK qdc 4 B1 w A1 d1) (h2:RdK qdc 4 B2 w A2 d2) (hn:d1.size≤100000000) (hm:d2.size≤100000000) :
 Calls Tryz.prog 108 #[.slice A1 d1.size c1,.slice A2 d2.size c2] w fun e w'=>e=.returned (.bool (decide (d1=d2)))∧Below w.heap.size w w' :=
 (rSame300 A1 A2 c1 c2 d1 d2 B1 B2 w h1 h2 hn hm).mono fun _ _ ⟨he,n,hw⟩=>⟨he,by rw [hw];exact qax (Below.refl _ _) n⟩
set_option maxHeartbeats 2000000 in
theorem rSame320 (A1 A2:Option Addr) (c1 c2:Nat) (d1 d2:Array SS) (B1 B2:Nat) (w:World) (h1:RdK qcw 3 B1 w A1 d1) (h2:RdK qcw 3 B2 w A2 d2) (_hn:d1.size≤100000000) (hm:d2.size≤100000000) :
 Calls Tryz.prog 109 #[.slice A1 d1.size c1,.slice A2 d2.size c2] w fun e w'=>e=.returned (.bool (decide (d1=d2)))∧∃ n,w'=w.drewN n:=by
 by_cases hs:d1.size=d2.size
 ·have hb:((d1.size:Int) != (d2.size:Int))=false:=by simp [hs]
  have HS:=hI hs
  have hge:d1.size≤d2.size:=by omega
  clear hs
  go_enter Tryz.func109,Tryz.ntmps109
  go_wp2
  go_loopw [5] (fun i wr=>∃ k n:Nat,k≤d1.size∧i=.int .i64 k∧wr=w.drewN n∧∀ j,j < k→d1[j]! = d2[j]!) (fun i _=>d1.size - (intOf i).toNat)
  case atStart=>exact ⟨0,0,Nat.zero_le _,rfl,rfl,fun j hj=>absurd hj (by omega)⟩
  case round =>
   obtain ⟨k,n,hk,rfl,rfl,hj⟩:=hrel
   have HJ:=hI hj;clear hj
   by_cases hlt:k < d1.size
   ·obtain ⟨b1,o1,rfl,_,f1⟩:=h1.at_ hlt
    obtain ⟨b2,o2,rfl,_,f2⟩:=h2.at_ (i:=k) (by omega)
    have e10:=f1 0 (by omega)
    have e11:=f1 1 (by omega)
    have e12:=f1 2 (by omega)
    have e20:=f2 0 (by omega)
    have e21:=f2 1 (by omega)
    have e22:=f2 2 (by omega)
    have hnx:=neSs d1[k]! d2[k]!
    generalize hx:d1[k]! = x at e10 e11 e12 hnx
    generalize hy:d2[k]! = y at e20 e21 e22 hnx
    have HXX:=hI hx;clear hx
    have HYY:=hI hy;clear hy
    simp only [Nat.add_zero,qcw,List.getElem!_cons_zero,List.getElem!_cons_succ] at e10 e11 e12 e20 e21 e22
    clear f1 f2
    have kz:(k:Int) < (d1.size:Int):=by omega
    have kz2:(k:Int) < (d2.size:Int):=by omega
    by_cases hxy:x=y
    ·have hd:decide (x=y)=true:=by simp [hxy]
     have HXY:=hI hxy;clear hxy
     rw [hd] at hnx
     clear hd
     go_wp2
     go_quiet (fail)
     go_wp2
     go_roundw
     case rel=>exact ⟨k + 1,_,by omega,by go_num,rfl,fun j hj=>by
      rcases Nat.lt_or_ge j k with h | h
      ·exact HJ.out j h
      ·obtain rfl:j=k:=by omega
       rw [HXX.out,HYY.out];exact HXY.out⟩
     case measure=>simp [intOf];omega
    ·have hd:decide (x=y)=false:=by simp [hxy]
     have HXY:=hI hxy;clear hxy
     rw [hd] at hnx
     clear hd
     go_wp2
     go_quiet (fail)
     go_wp2
     go_ret
     exact ⟨qag (by symm;rw [decide_eq_false_iff_not];rintro rfl;exact HXY.out (by rw [←HXX.out,←HYY.out])),_,World.drewN_drewN _ _ _⟩
   ·have hlt':decide ((k:Int) < (d1.size:Int))=false:=by simp;omega
    go_wp2
    go_ret
    exact ⟨qag (by symm;rw [decide_eq_true_iff];exact qle HS.out fun j hj=>HJ.out j (by omega)),n,rfl⟩
 ·have hb:((d1.size:Int) != (d2.size:Int))=true:=by simp;omega
  have HS:=hI hs
  clear hs
  go_enter Tryz.func109,Tryz.ntmps109
  go_wp2
  go_ret
  exact ⟨qag (by symm;rw [decide_eq_false_iff_not];rintro rfl;exact HS.out rfl),0,rfl⟩
theorem qub (A1 A2:Option Addr) (c1 c2:Nat) (d1 d2:Array SS) (B1 B2:Nat) (w:World) (h1:RdK qcw 3 B1 w A1 d1) (h2:RdK qcw 3 B2 w A2 d2) (hn:d1.size≤100000000) (hm:d2.size≤100000000) :
 Calls Tryz.prog 109 #[.slice A1 d1.size c1,.slice A2 d2.size c2] w fun e w'=>e=.returned (.bool (decide (d1=d2)))∧Below w.heap.size w w' :=
 (rSame320 A1 A2 c1 c2 d1 d2 B1 B2 w h1 h2 hn hm).mono fun _ _ ⟨he,n,hw⟩=>⟨he,by rw [hw];exact qax (Below.refl _ _) n⟩
end Go.Proofs.YtnmojicfmcbgmaaGreatDoor
