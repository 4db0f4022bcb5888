/- Texts that the law leans on. -/
import Derived.Test.YtnmojicfmcbgmaaGreatDoorQImX
import Derived.Test.YtnmojicfmcbgmaaGreatDoorQOpenK
import Derived.Test.YtnmojicfmcbgmaaGreatDoorQStF
import Derived.Test.YtnmojicfmcbgmaaGreatDoorQStG
import Derived.Deep.RegionHeld3
import Derived.Test.YtnmojicfmcbgmaaGreatDoorQRowA
import Derived.Test.YtnmojicfmcbgmaaGreatDoorQRdr
namespace Go.Proofs.YtnmojicfmcbgmaaGreatDoor
open Go.RowKit Go.Sort Go.Lib Nb
set_option maxRecDepth 100000
structure VRd (n b B:Nat) (s:ByteArray) (p1 p3:Nat) (st:IS) (w:World):Prop where
 i:IRd n b B s st w
 v1:w.cell? ⟨p1,0,none⟩=some (.pointer (some ⟨B,0,none⟩))
 v3:w.cell? ⟨p3,0,none⟩=some (.func (.func 76) #[.pointer (some ⟨B,0,none⟩)] #[])
 h1:n≤p1
 h3:n≤p3
 ge:0 < n
section
variable {n b B p1 p3:Nat} {s:ByteArray} {st st':IS} {w w':World}
theorem VRd.post (h:VRd n b B s p1 p3 st w) (hp:IPost n b B s st' w w'):VRd n b B s p1 p3 st' w':=by
 have a:=h.i.hb
 have c:=h.i.hB
 have d:=h.h1
 have e:=h.h3
 exact ⟨hp.1,hp.2.cell (by show p1≠b;omega) (by show p1≠B;omega) h.v1,hp.2.cell (by show p3≠b;omega) (by show p3≠B;omega) h.v3,d,e,h.ge⟩
theorem IPost.trans {st2:IS} {w2:World} (h:IPost n b B s st' w w') (k:IPost n b B s st2 w' w2):IPost n b B s st2 w w2:=⟨k.1,h.2.trans k.2⟩
theorem IPost.below {w2:World} (h:IPost n b B s st' w w') (hb:Below w'.heap.size w' w2):IPost n b B s st' w w2:=⟨h.1.below hb,h.2.below hb⟩
theorem IPost.of_below (h:IRd n b B s st w) (hb:Below w.heap.size w w'):IPost n b B s st w w':=⟨h.below hb,Gr2.of_below hb⟩
theorem VRd.below (h:VRd n b B s p1 p3 st w) (hb:Below w.heap.size w w'):VRd n b B s p1 p3 st w':=h.post (IPost.of_below h.i hb)
theorem IPost.box {w2:World} {g:Nat} {cs:Array Value} {T:TypeId} {f:Nat×Nat} (h:IPost n b B s st' w w') (hb:w'.heap[g]?=some (.cells cs T f)) (he:T≠126) (hg:w.heap.size≤g) (hn:n≤w.heap.size) (hge:0 < n) (hk:w'.grownBy w2 (some g)):IPost n b B s st' w w2 :=
 ⟨h.1.apart hb he (Nat.le_trans hn hg) hge hk,h.2.own hk (fun g' e=>by injection e with e;omega)⟩
theorem IPost.heap {g:Nat} {o:Obj} (h:IPost n b B s st' w w') (hg:w.heap[g]?=some o) (hn:n≤g):w'.heap[g]?=some o:=by
 have h1:=h.1.hb
 have h2:=h.1.hB
 exact h.2.heap hg (by omega) (by omega)
end
theorem heap_k3 {w:World} {g:Nat} {a b c:Value} {T:TypeId} (h:w.heap[g]?=some (.cells #[a,b,c] T (0,0))) (a' b' c':Value):(((w.setCell ⟨g,0,none⟩ a').setCell ⟨g,1,none⟩ b').setCell ⟨g,2,none⟩ c').heap[g]?=some (.cells #[a',b',c'] T (0,0)):=by
 rw [qaj (qaj (qaj h 0 a') 1 b') 2 c'];rfl
theorem heap_k4 {w:World} {g:Nat} {a b c d:Value} {T:TypeId} (h:w.heap[g]?=some (.cells #[a,b,c,d] T (0,0))) (a' b' c' d':Value):((((w.setCell ⟨g,0,none⟩ a').setCell ⟨g,1,none⟩ b').setCell ⟨g,2,none⟩ c').setCell ⟨g,3,none⟩ d').heap[g]?=some (.cells #[a',b',c',d'] T (0,0)):=by
 rw [qaj (qaj (qaj (qaj h 0 a') 1 b') 2 c') 3 d'];rfl
theorem qbr {n b B p1 p3:Nat} {s:ByteArray} {st:IS} {w:World} (h:VRd n b B s p1 p3 st w) (hs:s.size≤1000000) {st':IS} {x:Nat} (hx:nC.rd s.data.toList st=(st',x)) :
 Calls Tryz.prog 76 #[.pointer (some ⟨B,0,none⟩)] w fun e w'=>e=.returned (.int .i64 (x:Int))∧IPost n b B s st' w w':=by
 have:=inum_any n b B s st w h.i hs
 rw [hx] at this
 exact this
theorem qql {n b B p1 p3:Nat} {s:ByteArray} {st:IS} {w:World} (h:VRd n b B s p1 p3 st w) (hs:s.size≤1000000) {st':IS} {x:List UInt8} (hx:(qif 300 (by decide)).rd s.data.toList st=(st',x)) :
 Calls Tryz.prog 135 #[.pointer (some ⟨b,0,none⟩),.int .i64 300] w fun e w'=>e=.returned (.string ⟨x.toArray⟩)∧IPost n b B s st' w w':=by
 have:=RText_any b s st.r 300 w h.i.rd h.i.gl hs
 have e1:(qds s.data.toList 300 st.r).1=st'.r:=by have:=congrArg (fun q=>q.1.r) hx;exact this
 have e2:(qds s.data.toList 300 st.r).2=x:=congrArg (fun q=>q.2) hx
 have e3:st.odd=st'.odd:=by have:=congrArg (fun q=>q.1.odd) hx;exact this
 rw [e2,e1] at this
 refine this.mono ?_
 rintro e w' ⟨h1,h2⟩
 have h3:=h.i.rpost h2
 rw [e3] at h3
 exact ⟨h1,h3,h2.gr2⟩
structure KD (α:Type) [Inhabited α] where
 en:α→List Value
 k:Nat
 rd:World→α→Prop
 rw:α→Nat→Prop
 hk:∀ x,(en x).length=k
 h1:∀ x,∀ u ∈ en x,u.oneCell'=true
 lt:∀ {w x blk},rd w x→rw x blk→blk < w.heap.size
 keep:∀ {w w' x},rd w x→w.heap.size≤w'.heap.size→(∀ blk,rw x blk→w'.heap[blk]?=w.heap[blk]?)→rd w' x
def rwB {α:Type} (A:Option Addr) (d:Array α) (blk:Nat):Prop:=0 < d.size∧∃ a,A=some a∧a.block=blk
theorem RdK.ltB {α:Type} [Inhabited α] {enc:α→List Value} {k:Nat} {w:World} {A:Option Addr} {d:Array α} {blk:Nat} (h:RdK enc k w.heap.size w A d) (hb:rwB A d blk):blk < w.heap.size:=by
 obtain ⟨h0,a,rfl,rfl⟩:=hb
 obtain ⟨g,off,e,hlt,_⟩:=h h0
 injection e with e
 rw [e]
 exact hlt
theorem RdK.keepB {α:Type} [Inhabited α] {enc:α→List Value} {k:Nat} {w w':World} {A:Option Addr} {d:Array α} (h:RdK enc k w.heap.size w A d) (hs:w.heap.size≤w'.heap.size) (hb:∀ blk,rwB A d blk→w'.heap[blk]?=w.heap[blk]?):RdK enc k w'.heap.size w' A d:=fun h0=>by
 obtain ⟨g,off,e,hlt,hc⟩:=h h0
 exact ⟨g,off,e,Nat.lt_of_lt_of_le hlt hs,fun t ht=>(World.cell?_of_block (a:=⟨g,off + t,none⟩) (hb g ⟨h0,_,e,rfl⟩)).trans (hc t ht)⟩
theorem RdI_R.ltB {w:World} {A:Option Addr} {d:Array Int} {blk:Nat} (h:RdI_R w.heap.size w A d) (hb:rwB A d blk):blk < w.heap.size:=by
 obtain ⟨h0,a,rfl,rfl⟩:=hb
 obtain ⟨g,off,e,hlt,_⟩:=h h0
 injection e with e
 rw [e]
 exact hlt
theorem RdI_R.keepB {w w':World} {A:Option Addr} {d:Array Int} (h:RdI_R w.heap.size w A d) (hs:w.heap.size≤w'.heap.size) (hb:∀ blk,rwB A d blk→w'.heap[blk]?=w.heap[blk]?):RdI_R w'.heap.size w' A d:=fun h0=>by
 obtain ⟨g,off,e,hlt,hc⟩:=h h0
 exact ⟨g,off,e,Nat.lt_of_lt_of_le hlt hs,fun t ht=>(World.cell?_of_block (a:=⟨g,off + t,none⟩) (hb g ⟨h0,_,e,rfl⟩)).trans (hc t ht)⟩
def kdE:KD EN where
 en:=encE
 k:=10
 rd w e:=RdE0 w e
 rw e blk:=rwB e.A e.z blk
 hk _:=rfl
 h1:=encE_1
 lt h hb:=h.rd.ltB hb
 keep h hs hb:=⟨h.rd.keepB hs hb,h.cz⟩
def kdK:KD KE where
 en:=qcs
 k:=3
 rd w x:=RdKE w x
 rw x blk:=rwB x.r.A x.r.z blk∨rwB x.a.A x.a.z blk
 hk _:=rfl
 h1:=encKE_1
 lt h hb:=by
  rcases hb with hb | hb
  ·exact h.r.rd.ltB hb
  ·exact h.a.rd.ltB hb
 keep h hs hb:=⟨⟨h.r.rd.keepB hs fun blk k=>hb blk (Or.inl k),h.r.no⟩,⟨h.a.rd.keepB hs fun blk k=>hb blk (Or.inr k),h.a.no⟩⟩
def kdI:KD (RW Int) where
 en:=encW
 k:=1
 rd w x:=RdJ w x
 rw x blk:=rwB x.A x.z blk
 hk _:=rfl
 h1:=encW_1
 lt h hb:=h.rd.ltB hb
 keep h hs hb:=⟨h.rd.keepB hs hb,h.cz,h.no⟩
def kdD:KD (RW (Int×Int)) where
 en:=encW
 k:=1
 rd w x:=RdW encR 2 w x
 rw x blk:=rwB x.A x.z blk
 hk _:=rfl
 h1:=encW_1
 lt h hb:=h.rd.ltB hb
 keep h hs hb:=⟨h.rd.keepB hs hb,h.cz,h.no⟩
def kdT:KD IT where
 en:=qdc
 k:=4
 rd _ _:=True
 rw _ _:=False
 hk _:=rfl
 h1:=encIT_1
 lt _ hb:=hb.elim
 keep _ _ _:=trivial
def kdS:KD SS where
 en:=qcw
 k:=3
 rd _ _:=True
 rw _ _:=False
 hk _:=rfl
 h1:=encSS_1
 lt _ hb:=hb.elim
 keep _ _ _:=trivial
def OfP {α β:Type} [Inhabited α] (kd:KD α) (pc:α→β) (nn:α→Prop) (val:α→Value) (n b B:Nat) (s:ByteArray) (r:IS×β) (w:World) (e:Ending) (w':World):Prop :=
 ∃ x,e=.returned (val x)∧kd.rd w' x∧(∀ blk,kd.rw x blk→w.heap.size≤blk)∧pc x=r.2∧nn x∧IPost n b B s r.1 w w'
theorem manyR4 {α:Type} {f:IS→IS×α} {s0 s1 s2 s3 s4:IS} {x0 x1 x2 x3:α} (e0:f s0=(s1,x0)) (e1:f s1=(s2,x1)) (e2:f s2=(s3,x2)) (e3:f s3=(s4,x3)):qan f 4 s0=(s4,[x0,x1,x2,x3]):=by
 simp only [qan,e0,e1,e2,e3]
theorem manyR2 {α:Type} {f:IS→IS×α} {s0 s1 s2:IS} {x0 x1:α} (e0:f s0=(s1,x0)) (e1:f s1=(s2,x1)):qan f 2 s0=(s2,[x0,x1]):=by
 simp only [qan,e0,e1]
theorem manyR8 {α:Type} {f:IS→IS×α} {s0 s1 s2 s3 s4 s5 s6 s7 s8:IS} {x0 x1 x2 x3 x4 x5 x6 x7:α} (e0:f s0=(s1,x0)) (e1:f s1=(s2,x1)) (e2:f s2=(s3,x2)) (e3:f s3=(s4,x3)) (e4:f s4=(s5,x4)) (e5:f s5=(s6,x5)) (e6:f s6=(s7,x6)) (e7:f s7=(s8,x7)):qan f 8 s0=(s8,[x0,x1,x2,x3,x4,x5,x6,x7]):=by
 simp only [qan,e0,e1,e2,e3,e4,e5,e6,e7]
theorem qcb {α β:Type} {c:Cod α} {d:Cod β} {s:List UInt8} {s0 s1 s2:IS} {x:α} {y:β} (e0:c.rd s s0=(s1,x)) (e1:d.rd s s1=(s2,y)):(c.pair d).rd s s0=(s2,(x,y)):=by
 show ((d.rd s (c.rd s s0).1).1,((c.rd s s0).2,(d.rd s (c.rd s s0).1).2))=_
 rw [e0,e1]
def SW (p1 p3 b B:Nat) (W:World):Prop:=W.cell? ⟨p1,0,none⟩=some (.pointer (some ⟨B,0,none⟩))∧W.cell? ⟨p3,0,none⟩=some (.func (.func 76) #[.pointer (some ⟨B,0,none⟩)] #[])∧W.cell? ⟨B,0,none⟩=some (.pointer (some ⟨b,0,none⟩))
theorem VRd.sw {n b B p1 p3:Nat} {s:ByteArray} {st:IS} {w:World} (h:VRd n b B s p1 p3 st w):SW p1 p3 b B w:=⟨h.v1,h.v3,h.i.c0⟩
set_option maxHeartbeats 1000000 in
theorem item_any {n b B p1 p3:Nat} {s:ByteArray} {st:IS} {w:World} (h:VRd n b B s p1 p3 st w) (hs:s.size≤1000000) :
 Calls Tryz.prog 140 #[.pointer (some ⟨p3,0,none⟩)] w fun e w'=>OfP kdT itM nnT (fun x=>.agg (qdc x).toArray) n b B s ((nC.vec 4).rd s.data.toList st) w e w':=by
 rcases e0:nC.rd s.data.toList st with ⟨st1,x0⟩
 rcases e1:nC.rd s.data.toList st1 with ⟨st2,x1⟩
 rcases e2:nC.rd s.data.toList st2 with ⟨st3,x2⟩
 rcases e3:nC.rd s.data.toList st3 with ⟨st4,x3⟩
 have EE:Hid ((nC.vec 4).rd s.data.toList st=(st4,[x0,x1,x2,x3])):=manyR4 e0 e1 e2 e3
 have E0:=hI e0
 have E1:=hI e1
 have E2:=hI e2
 have E3:=hI e3
 rw [EE.out]
 clear e0 e1 e2 e3
 have H:=hI h
 have HS:=hI hs
 have HQN:=hI h.i.hn
 clear h hs
 go_enter Tryz.func140,Tryz.ntmps140
 go_wp2_with fail
 refine qat (S:=fun W=>W.cell? ⟨p1,0,none⟩=some (.pointer (some ⟨B,0,none⟩))∧W.cell? ⟨p3,0,none⟩=some (.func (.func 76) #[.pointer (some ⟨B,0,none⟩)] #[])∧W.cell? ⟨B,0,none⟩=some (.pointer (some ⟨b,0,none⟩))) (by kernel_rfl) ?_
 have B0:=hI (bel1 w (.cells #[.int .i64 0,.int .i64 0,.int .i64 0,.int .i64 0] 84)).drew
 have V0:=hI (H.out.below B0.out)
 have P0:=hI (IPost.of_below H.out.i B0.out)
 have Q0:=hI (hA1 w (.cells #[.int .i64 0,.int .i64 0,.int .i64 0,.int .i64 0] 84))
 have hS:=V0.out.sw
 unfold SW at hS
 refine tkF 2 0 rfl rfl hS ?_
 simp only [Act.put,sA,s0,s1]
 refine tkF 4 2 rfl rfl hS ?_
 simp only [Act.put,sA,s0,s1]
 refine tkF 6 4 rfl rfl hS ?_
 simp only [Act.put,sA,s0,s1]
 refine tkF 8 6 rfl rfl hS ?_
 simp only [Act.put,sA,s0,s1]
 refine rdy1 1 rfl (fun K hK=>?_)
 go_simp
 refine (qbr V0.out HS.out E0.out).mono ?_
 rintro _ w1 ⟨rfl,hp⟩
 have V1:=hI (V0.out.post hp)
 have P1:=hI (P0.out.trans hp)
 have Q1:=hI (hp.heap Q0.out HQN.out)
 clear hp
 refine hK.out _ _ V1.out.sw (fun _=>?_)
 clear hK K
 refine rdy1 3 rfl (fun K hK=>?_)
 go_simp
 refine (qbr V1.out HS.out E1.out).mono ?_
 rintro _ w2 ⟨rfl,hp⟩
 have V2:=hI (V1.out.post hp)
 have P2:=hI (P1.out.trans hp)
 have Q2:=hI (hp.heap Q1.out HQN.out)
 clear hp
 refine hK.out _ _ V2.out.sw (fun _=>?_)
 clear hK K
 refine rdy1 5 rfl (fun K hK=>?_)
 go_simp
 refine (qbr V2.out HS.out E2.out).mono ?_
 rintro _ w3 ⟨rfl,hp⟩
 have V3:=hI (V2.out.post hp)
 have P3:=hI (P2.out.trans hp)
 have Q3:=hI (hp.heap Q2.out HQN.out)
 clear hp
 refine hK.out _ _ V3.out.sw (fun _=>?_)
 clear hK K
 refine rdy1 7 rfl (fun K hK=>?_)
 go_simp
 refine (qbr V3.out HS.out E3.out).mono ?_
 rintro _ w4 ⟨rfl,hp⟩
 have V4:=hI (V3.out.post hp)
 have P4:=hI (P3.out.trans hp)
 have Q4:=hI (hp.heap Q3.out HQN.out)
 clear hp
 refine hK.out _ _ V4.out.sw (fun _=>?_)
 clear hK K
 have hS:=V4.out.sw
 unfold SW at hS
 refine tkF 10 8 rfl rfl hS ?_
 simp only [Act.put,sA,s0,s1]
 have c0:=(qab Q4.out 0).trans rfl
 have f0:=Lib.frozen_of_heap Q4.out 0
 have c1:=(qab Q4.out 1).trans rfl
 have f1:=Lib.frozen_of_heap Q4.out 1
 have c2:=(qab Q4.out 2).trans rfl
 have f2:=Lib.frozen_of_heap Q4.out 2
 have c3:=(qab Q4.out 3).trans rfl
 have f3:=Lib.frozen_of_heap Q4.out 3
 have hqlt:=qaa Q4.out
 refine rdyL 9 rfl (fun K hK=>?_)
 go_simp
 refine hK.out _ _ ?_
 clear hK K c0 f0 c1 f1 c2 f2 c3 f3 hqlt
 refine qas (by kernel_rfl) ?_ _
 go_wp2
 have hE:=heap_k4 Q4.out (.int .i64 (x0:Int)) (.int .i64 (x1:Int)) (.int .i64 (x2:Int)) (.int .i64 (x3:Int))
 have k0:=(qab hE 0).trans rfl
 have k1:=(qab hE 1).trans rfl
 have k2:=(qab hE 2).trans rfl
 have k3:=(qab hE 3).trans rfl
 refine bodyPost_ret (v:=.agg #[.int .i64 (x0:Int),.int .i64 (x1:Int),.int .i64 (x2:Int),.int .i64 (x3:Int)]) (by simp [results,Tryz.results140,go_sem,k0,k1,k2,k3]) rfl ?_
 refine ⟨⟨(x0:Int),(x1:Int),(x2:Int),(x3:Int)⟩,rfl,trivial,(fun _ h=>h.elim),rfl,by unfold nnT;simp only;omega,?_⟩
 exact P4.out.box Q4.out (by decide) (Nat.le_refl _) HQN.out H.out.ge (by repeat' (first | exact World.grownBy.refl _ _ | (refine qal ?_ rfl _)))
set_option maxHeartbeats 1000000 in
theorem sess_any {n b B p1 p3:Nat} {s:ByteArray} {st:IS} {w:World} (h:VRd n b B s p1 p3 st w) (hs:s.size≤1000000) :
 Calls Tryz.prog 142 #[.pointer (some ⟨p3,0,none⟩),.pointer (some ⟨p1,0,none⟩)] w fun e w'=>OfP kdS seM nnS (fun x=>.agg (qcw x).toArray) n b B s (seC.rd s.data.toList st) w e w':=by
 rcases e0:nC.rd s.data.toList st with ⟨st1,x0⟩
 rcases e1:nC.rd s.data.toList st1 with ⟨st2,x1⟩
 rcases e2:(qif 300 (by decide)).rd s.data.toList st2 with ⟨st3,x2⟩
 have EE:Hid (seC.rd s.data.toList st=(st3,([x0,x1],x2))):=qcb (manyR2 e0 e1) e2
 have E0:=hI e0
 have E1:=hI e1
 have E2:=hI e2
 rw [EE.out]
 clear e0 e1 e2
 have H:=hI h
 have HS:=hI hs
 have HQN:=hI h.i.hn
 clear h hs
 go_enter Tryz.func142,Tryz.ntmps142
 go_wp2_with fail
 refine qat (S:=fun W=>W.cell? ⟨p1,0,none⟩=some (.pointer (some ⟨B,0,none⟩))∧W.cell? ⟨p3,0,none⟩=some (.func (.func 76) #[.pointer (some ⟨B,0,none⟩)] #[])∧W.cell? ⟨B,0,none⟩=some (.pointer (some ⟨b,0,none⟩))) (by kernel_rfl) ?_
 have B0:=hI (bel1 w (.cells #[.int .i64 0,.int .i64 0,.string ⟨#[]⟩] 86)).drew
 have V0:=hI (H.out.below B0.out)
 have P0:=hI (IPost.of_below H.out.i B0.out)
 have Q0:=hI (hA1 w (.cells #[.int .i64 0,.int .i64 0,.string ⟨#[]⟩] 86))
 have hS:=V0.out.sw
 unfold SW at hS
 refine tkF 3 0 rfl rfl hS ?_
 simp only [Act.put,sA,s0,s1]
 refine tkF 5 2 rfl rfl hS ?_
 simp only [Act.put,sA,s0,s1]
 refine tkF 7 4 rfl rfl hS ?_
 simp only [Act.put,sA,s0,s1]
 refine tkF 8 5 rfl rfl hS ?_
 simp only [Act.put,sA,s0,s1]
 refine tkF 9 6 rfl rfl hS ?_
 simp only [Act.put,sA,s0,s1]
 refine tkF 10 7 rfl rfl hS ?_
 simp only [Act.put,sA,s0,s1]
 refine rdy1 1 rfl (fun K hK=>?_)
 go_simp
 refine (qbr V0.out HS.out E0.out).mono ?_
 rintro _ w1 ⟨rfl,hp⟩
 have V1:=hI (V0.out.post hp)
 have P1:=hI (P0.out.trans hp)
 have Q1:=hI (hp.heap Q0.out HQN.out)
 clear hp
 refine hK.out _ _ V1.out.sw (fun _=>?_)
 clear hK K
 refine rdy1 3 rfl (fun K hK=>?_)
 go_simp
 refine (qbr V1.out HS.out E1.out).mono ?_
 rintro _ w2 ⟨rfl,hp⟩
 have V2:=hI (V1.out.post hp)
 have P2:=hI (P1.out.trans hp)
 have Q2:=hI (hp.heap Q1.out HQN.out)
 clear hp
 refine hK.out _ _ V2.out.sw (fun _=>?_)
 clear hK K
 refine rdy1 8 rfl (fun K hK=>?_)
 go_simp
 refine (qql V2.out HS.out E2.out).mono ?_
 rintro _ w3 ⟨rfl,hp⟩
 have V3:=hI (V2.out.post hp)
 have P3:=hI (P2.out.trans hp)
 have Q3:=hI (hp.heap Q2.out HQN.out)
 clear hp
 refine hK.out _ _ V3.out.sw (fun _=>?_)
 clear hK K
 have hS:=V3.out.sw
 unfold SW at hS
 refine tkF 12 9 rfl rfl hS ?_
 simp only [Act.put,sA,s0,s1]
 have c0:=(qab Q3.out 0).trans rfl
 have f0:=Lib.frozen_of_heap Q3.out 0
 have c1:=(qab Q3.out 1).trans rfl
 have f1:=Lib.frozen_of_heap Q3.out 1
 have c2:=(qab Q3.out 2).trans rfl
 have f2:=Lib.frozen_of_heap Q3.out 2
 have hqlt:=qaa Q3.out
 refine rdyL 10 rfl (fun K hK=>?_)
 go_simp
 refine hK.out _ _ ?_
 clear hK K c0 f0 c1 f1 c2 f2 hqlt
 refine qas (by kernel_rfl) ?_ _
 go_wp2
 have hE:=heap_k3 Q3.out (.int .i64 (x0:Int)) (.int .i64 (x1:Int)) (.string ⟨x2.toArray⟩)
 have k0:=(qab hE 0).trans rfl
 have k1:=(qab hE 1).trans rfl
 have k2:=(qab hE 2).trans rfl
 refine bodyPost_ret (v:=.agg #[.int .i64 (x0:Int),.int .i64 (x1:Int),.string ⟨x2.toArray⟩]) (by simp [results,Tryz.results142,go_sem,k0,k1,k2]) rfl ?_
 refine ⟨⟨(x0:Int),(x1:Int),⟨x2.toArray⟩⟩,rfl,trivial,(fun _ h=>h.elim),rfl,by unfold nnS;simp only;omega,?_⟩
 exact P3.out.box Q3.out (by decide) (Nat.le_refl _) HQN.out H.out.ge (by repeat' (first | exact World.grownBy.refl _ _ | (refine qal ?_ rfl _)))
end Go.Proofs.YtnmojicfmcbgmaaGreatDoor
namespace Go.Proofs.YtnmojicfmcbgmaaGreatDoor
open Go.RowKit Go.Sort Go.Lib Nb
set_option maxRecDepth 100000
theorem qdf {n:Nat} {hn:0 < n} {s:List UInt8} {st st':IS} {g:GS} (hx:(rowC n hn).rd s st=(st',g)):∀ x ∈ g,x.length=n:=by
 have:g=grp n ((rowR s 1000 st.r).2.length / n) (rowR s 1000 st.r).2:=(congrArg (fun q=>q.2) hx).symm
 rw [this]
 exact qpf n _ _ (Nat.div_mul_le_self _ _)
section
variable {n b B p1 p3:Nat} {s:ByteArray} {st st':IS} {w:World} {g:GS}
theorem qqm (h:VRd n b B s p1 p3 st w) (hs:s.size≤1000000) (hx:(rowC 2 (by decide)).rd s.data.toList st=(st',g)) :
 Calls Tryz.prog 79 #[.pointer (some ⟨B,0,none⟩),.int .i64 2,.func (.func 80) #[] #[]] w fun e w'=>GrP qbe 2 n b B s (qai g) st' w e w':=by
 have:=qsn n b B s st w h.i hs
 rw [hx] at this
 exact this
theorem qqn (h:VRd n b B s p1 p3 st w) (hs:s.size≤1000000) (hx:(rowC 2 (by decide)).rd s.data.toList st=(st',g)) :
 Calls Tryz.prog 83 #[.pointer (some ⟨B,0,none⟩),.int .i64 2,.func (.func 84) #[] #[]] w fun e w'=>GrP encR 2 n b B s (qai g) st' w e w':=by
 have:=qso n b B s st w h.i hs
 rw [hx] at this
 exact this
theorem vgrpK_any (h:VRd n b B s p1 p3 st w) (hs:s.size≤1000000) (hx:(rowC 6 (by decide)).rd s.data.toList st=(st',g)) :
 Calls Tryz.prog 136 #[.pointer (some ⟨B,0,none⟩),.int .i64 6,.func (.func 137) #[] #[]] w fun e w'=>GrP encK 6 n b B s (qbv g) st' w e w':=by
 have:=qsp n b B s st w h.i hs
 rw [hx] at this
 exact this
end
theorem GrP.keep {α:Type} [Inhabited α] {en:α→List Value} {k:Nat} {w w':World} {A:Option Addr} {d:Array α} {n b B:Nat} {s:ByteArray} {st:IS} (h:RdK en k w.heap.size w A d) (hA:Fr n A) (hp:IPost n b B s st w w'):RdK en k w'.heap.size w' A d:=h.gr2 hp.2 hA hp.1.hb hp.1.hB
theorem rwB.fr {α:Type} {A:Option Addr} {d:Array α} {blk m:Nat} (h:rwB A d blk) (hA:Fr m A):m≤blk:=by
 obtain ⟨_,a,ha,rfl⟩:=h
 exact hA a ha
set_option maxHeartbeats 2000000 in
theorem known_any {n b B p1 p3:Nat} {s:ByteArray} {st:IS} {w:World} (h:VRd n b B s p1 p3 st w) (hs:s.size≤1000000) :
 Calls Tryz.prog 82 #[.pointer (some ⟨p3,0,none⟩),.pointer (some ⟨p1,0,none⟩)] w fun e w'=>OfP kdK knM nnK (fun x=>.agg (qcs x).toArray) n b B s (knC.rd s.data.toList st) w e w':=by
 rcases e0:nC.rd s.data.toList st with ⟨st1,x0⟩
 rcases e1:(rowC 2 (by decide)).rd s.data.toList st1 with ⟨st2,g1⟩
 rcases e2:(rowC 2 (by decide)).rd s.data.toList st2 with ⟨st3,g2⟩
 have EE:Hid (knC.rd s.data.toList st=(st3,(x0,(g1,g2)))):=qcb e0 (qcb e1 e2)
 have E0:=hI e0
 have E1:=hI e1
 have E2:=hI e2
 have M1:=hI (qfs (qdf e1))
 have M2:=hI (qfs (qdf e2))
 rw [EE.out]
 clear e0 e1 e2
 have H:=hI h
 have HS:=hI hs
 have HQN:=hI h.i.hn
 clear h hs
 go_enter Tryz.func82,Tryz.ntmps82
 go_wp2_with fail
 refine qat (S:=fun W=>W.cell? ⟨p1,0,none⟩=some (.pointer (some ⟨B,0,none⟩))∧W.cell? ⟨p3,0,none⟩=some (.func (.func 76) #[.pointer (some ⟨B,0,none⟩)] #[])∧W.cell? ⟨B,0,none⟩=some (.pointer (some ⟨b,0,none⟩))) (by kernel_rfl) ?_
 have B0:=hI (bel1 w (.cells #[.int .i64 0,.slice none 0 0,.slice none 0 0] 81)).drew
 have V0:=hI (H.out.below B0.out)
 have P0:=hI (IPost.of_below H.out.i B0.out)
 have Q0:=hI (hA1 w (.cells #[.int .i64 0,.slice none 0 0,.slice none 0 0] 81))
 have hS:=V0.out.sw
 unfold SW at hS
 refine tkF 3 0 rfl rfl hS ?_
 simp only [Act.put,sA,s0,s1]
 refine tkF 5 2 rfl rfl hS ?_
 simp only [Act.put,sA,s0,s1]
 refine tkF 7 4 rfl rfl hS ?_
 simp only [Act.put,sA,s0,s1]
 refine rdy1 1 rfl (fun K hK=>?_)
 go_simp
 refine (qbr V0.out HS.out E0.out).mono ?_
 rintro _ w1 ⟨rfl,hp⟩
 have V1:=hI (V0.out.post hp)
 have P1:=hI (P0.out.trans hp)
 have Q1:=hI (hp.heap Q0.out HQN.out)
 clear hp
 refine hK.out _ _ V1.out.sw (fun _=>?_)
 clear hK K
 refine rdy1 3 rfl (fun K hK=>?_)
 go_simp
 refine (qqn V1.out HS.out E1.out).mono ?_
 rintro _ w2 ⟨A1,cc1,rfl,hr1,hcz1,hno1,hfr1,hp⟩
 have V2:=hI (V1.out.post hp)
 have P2:=hI (P1.out.trans hp)
 have Q2:=hI (hp.heap Q1.out HQN.out)
 have R1:=hI hr1
 have N1:=hI hno1
 have F1:Hid (Fr (w.heap.size + 1) A1):=hfr1.mono (by have:=P1.out.2.size;have:=qaa Q1.out;omega)
 clear hr1 hno1 hfr1 hcz1
 clear hp
 refine hK.out _ _ V2.out.sw (fun _=>?_)
 clear hK K
 refine rdy1 5 rfl (fun K hK=>?_)
 go_simp
 refine (qqm V2.out HS.out E2.out).mono ?_
 rintro _ w3 ⟨A2,cc2,rfl,hr2,hcz2,hno2,hfr2,hp⟩
 have V3:=hI (V2.out.post hp)
 have P3:=hI (P2.out.trans hp)
 have Q3:=hI (hp.heap Q2.out HQN.out)
 have R1b:=hI (GrP.keep R1.out (F1.out.mono (by have:=HQN.out;omega)) hp)
 have R2:=hI hr2
 have N2:=hI hno2
 have F2:Hid (Fr (w.heap.size + 1) A2):=hfr2.mono (by have:=P2.out.2.size;have:=qaa Q2.out;omega)
 clear hr2 hno2 hfr2 hcz2
 clear hp
 refine hK.out _ _ V3.out.sw (fun _=>?_)
 clear hK K
 have hS:=V3.out.sw
 unfold SW at hS
 refine tkF 9 6 rfl rfl hS ?_
 simp only [Act.put,sA,s0,s1]
 have c0:=(qab Q3.out 0).trans rfl
 have f0:=Lib.frozen_of_heap Q3.out 0
 have c1:=(qab Q3.out 1).trans rfl
 have f1:=Lib.frozen_of_heap Q3.out 1
 have c2:=(qab Q3.out 2).trans rfl
 have f2:=Lib.frozen_of_heap Q3.out 2
 have hqlt:=qaa Q3.out
 refine rdyL 7 rfl (fun K hK=>?_)
 go_simp
 refine hK.out _ _ ?_
 clear hK K c0 f0 c1 f1 c2 f2 hqlt
 refine qas (by kernel_rfl) ?_ _
 go_wp2
 have hE:=heap_k3 Q3.out (.int .i64 (x0:Int)) (.slice A1 (qai g1).size cc1) (.slice A2 (qai g2).size cc2)
 have k0:=(qab hE 0).trans rfl
 have k1:=(qab hE 1).trans rfl
 have k2:=(qab hE 2).trans rfl
 refine bodyPost_ret (v:=.agg #[.int .i64 (x0:Int),.slice A1 (qai g1).size cc1,.slice A2 (qai g2).size cc2]) (by simp [results,Tryz.results82,go_sem,k0,k1,k2]) rfl ?_
 have hgw:w3.grownBy ((((w3.setCell ⟨w.heap.size,0,none⟩ (.int .i64 (x0:Int))).setCell ⟨w.heap.size,1,none⟩ (.slice A1 (qai g1).size cc1)).setCell ⟨w.heap.size,2,none⟩ (.slice A2 (qai g2).size cc2))) (some w.heap.size):=by
  repeat' (first | exact World.grownBy.refl _ _ | (refine qal ?_ rfl _))
 have hK3:RdKE w3 ⟨(x0:Int),⟨A1,cc1,qai g1⟩,⟨A2,cc2,qai g2⟩⟩:=⟨⟨R1b.out,N1.out⟩,⟨R2.out,N2.out⟩⟩
 have hrw:∀ blk,kdK.rw ⟨(x0:Int),⟨A1,cc1,qai g1⟩,⟨A2,cc2,qai g2⟩⟩ blk→w.heap.size + 1≤blk:=fun blk hb=>by
  rcases hb with hb | hb
  ·exact hb.fr F1.out
  ·exact hb.fr F2.out
 refine ⟨⟨(x0:Int),⟨A1,cc1,qai g1⟩,⟨A2,cc2,qai g2⟩⟩,rfl,kdK.keep hK3 hgw.size (fun blk hb=>hgw.block blk (kdK.lt hK3 hb) (by have:=hrw blk hb;intro e;injection e with e;omega)),(fun blk hb=>by have:=hrw blk hb;omega),?_,⟨Int.natCast_nonneg _,M1.out.2,M2.out.2⟩,P3.out.box Q3.out (by decide) (Nat.le_refl _) HQN.out H.out.ge hgw⟩
 show ((x0:Int).toNat,(qbg (qai g1),qbg (qai g2)))=_
 rw [M1.out.1,M2.out.1]
 rfl
theorem marks_any {n b B p1 p3:Nat} {s:ByteArray} {st:IS} {w:World} (h:VRd n b B s p1 p3 st w) (hs:s.size≤1000000) :
 Calls Tryz.prog 86 #[.pointer (some ⟨p1,0,none⟩)] w fun e w'=>OfP kdI (fun x=>intM x.z) (fun x=>nnI x.z) RW.v n b B s ((rowC 1 (by decide)).rd s.data.toList st) w e w':=by
 have HROW:Hid (Calls Tryz.prog 87 #[.pointer (some ⟨b,0,none⟩),.int .i64 1000] w fun e w'=>RRowP b s (rowR s.data.toList 1000 st.r) w e w'):=qjg b s st.r 1000 w h.i.rd h.i.gl hs (by decide)
 have H:=hI h
 have c1:=h.v1
 have c2:=h.i.c0
 clear h hs
 go_enter Tryz.func86,Tryz.ntmps86
 go_wp2_with fail
 refine HROW.out.mono ?_
 rintro _ w1 ⟨A,cp,rfl,hrd,⟨hnil,hcap⟩,hlo,hP⟩
 have HRD:=hI hrd
 have HN:=hI (And.intro hnil hcap)
 have HL:=hI hlo
 have HP:Hid (IRd n b B s ⟨(rowR s.data.toList 1000 st.r).1,st.odd⟩ w1∧Gr2 b B w w1):=⟨H.out.i.rpost hP,hP.gr2⟩
 clear hrd hnil hcap hlo hP c1 c2
 go_wp2
 go_ret
 have hm:=qwk (rowR s.data.toList 1000 st.r).2
 refine ⟨⟨A,cp,ints (rowR s.data.toList 1000 st.r).2⟩,?_,⟨HRD.out,?_,HN.out.1⟩,(fun blk hb=>hb.fr HL.out),hm.1,hm.2,?_,HP.out.2⟩
 ·unfold RW.v
  rw [qao]
  rfl
 ·show (ints (rowR s.data.toList 1000 st.r).2).size≤cp
  rw [qao]
  exact HN.out.2
 ·have e:((rowC 1 (by decide)).rd s.data.toList st).1=⟨(rowR s.data.toList 1000 st.r).1,st.odd⟩:=by
   show (⟨(rowR s.data.toList 1000 st.r).1,st.odd || decide ((rowR s.data.toList 1000 st.r).2.length % 1≠0)⟩:IS)=_
   rw [Nat.mod_one]
   simp
  rw [e]
  exact HP.out.1
theorem qxs {n b B p1 p3:Nat} {s:ByteArray} {st:IS} {w:World} (h:VRd n b B s p1 p3 st w) (hs:s.size≤1000000) :
 Calls Tryz.prog 89 #[.pointer (some ⟨p1,0,none⟩)] w fun e w'=>OfP kdD (fun x=>qbg x.z) (fun x=>nnP x.z) RW.v n b B s ((rowC 2 (by decide)).rd s.data.toList st) w e w':=by
 rcases e1:(rowC 2 (by decide)).rd s.data.toList st with ⟨st2,g1⟩
 have M1:=hI (qfs (qdf e1))
 have HG:=hI (qqn h hs e1)
 have c1:=h.v1
 clear h hs e1
 go_enter Tryz.func89,Tryz.ntmps89
 go_wp2_with fail
 refine HG.out.mono ?_
 rintro _ w1 ⟨A1,cc1,rfl,hr1,hcz1,hno1,hfr1,hp⟩
 have R1:=hI (And.intro hr1 (And.intro hcz1 hno1))
 have F1:=hI hfr1
 have HP:=hI hp
 clear hr1 hcz1 hno1 hfr1 hp c1
 go_wp2
 go_ret
 exact ⟨⟨A1,cc1,qai g1⟩,rfl,⟨R1.out.1,R1.out.2.1,R1.out.2.2⟩,(fun blk hb=>hb.fr F1.out),M1.out.1,M1.out.2,HP.out⟩
end Go.Proofs.YtnmojicfmcbgmaaGreatDoor
namespace Go.Proofs.YtnmojicfmcbgmaaGreatDoor
open Go.RowKit Go.Sort Go.Lib Nb
set_option maxRecDepth 100000
def qop (t:TypeId) (v:Value):Sem Value:=Instr.loadAt t v
def qlm (t:TypeId) (v x:Value):Sem Unit:=Instr.storeAt t v x
theorem qhv (ρ:Operand→Value) (dst:Option Tmp) (x:Operand) (ty:TypeId) (pos:String) (after:Array Edge) (guard:Option (Nat×Bool)) :
 execOp ρ { dst,op:=.load 132 x,type:=ty,pos,after,guard }=(do pure (.value (← qop 132 (ρ x)))):=rfl
theorem qgu (ρ:Operand→Value) (dst:Option Tmp) (x y:Operand) (ty:TypeId) (pos:String) (after:Array Edge) (guard:Option (Nat×Bool)) :
 execOp ρ { dst,op:=.store 132 x y,type:=ty,pos,after,guard }=(do qlm 132 (ρ x) (ρ y);pure .skip):=rfl
theorem qkf (W:World) (g:Nat) (h:qgm W g 10=true):(qop 132 (.pointer (some ⟨g,0,none⟩))).run Tryz.prog W=.ok (.agg (rowAt W g)) W:=by
 obtain ⟨t,h1,h2⟩:=qhd h
 simp only [qop,Instr.loadAt,Instr.sureAddr,Sem.run_bind,Sem.run_pure,Result.andThen]
 exact run_loadVar_row W g t 132 _ (0,0) _ h1 Tryz.underlying132 rfl (by rw [h2];kernel_rfl)
theorem qit (W:World) (g:Nat) (cs:Array Value) (h:qgm W g 10=true) (hc:cs.size=10) (h1:qbw cs=true) :
 (qlm 132 (.pointer (some ⟨g,0,none⟩)) (.agg cs)).run Tryz.prog W=.ok () (W.setRow g cs):=by
 obtain ⟨t,h2,h3⟩:=qhd h
 simp only [qlm,Instr.storeAt,Instr.sureAddr,Sem.run_bind,Sem.run_pure,Result.andThen]
 exact run_storeVar_row W g t 132 _ cs h2 (by rw [hc];kernel_rfl) (by rw [h3,hc]) h1
theorem qsq {fn:Func} {t:Tmp} (hf:fn.results=#[.cell t 132]) {tm:Array Value} {W:World} {g:Nat} {cs:Array Value} {T:TypeId} (hg:tm.getD t undef=.pointer (some ⟨g,0,none⟩)) (h:W.heap[g]?=some (.cells cs T (0,0))) (hc:cs.size=10):(results fn tm).run Tryz.prog W=.ok (.agg cs) W:=by
 have hg2:tm[t]?.getD undef=.pointer (some ⟨g,0,none⟩):=by rw [←Array.getD_eq_getD_getElem?];exact hg
 have hl:(loadVar 132 ⟨g,0,none⟩).run Tryz.prog W=.ok (.agg cs) W:=run_loadVar_row W g T 132 cs (0,0) _ h Tryz.underlying132 rfl (by rw [hc];kernel_rfl)
 simp [results,hf,hg2,asAddr,hl]
theorem qcd (W:World) (g:Nat) (T:TypeId) (old cs:Array Value) (hg:W.heap[g]?=some (.cells old T (0,0))) (ho:old.size=cs.size) (h1:qbw cs=true):(storeCells ⟨g,0,none⟩ cs.toList).run Tryz.prog W=.ok () (W.setRow g cs):=by
 have:=run_storeCells_from (P:=Tryz.prog) g T cs.toList 0 old W hg (by simp;omega) (fun v hv=>(Array.all_eq_true_iff_forall_mem.1 h1) v (by simpa using hv))
 simpa using this
theorem qbu (W:World) (g:Nat) (cs:Array Value):W.grownBy (W.setRow g cs) (some g):=⟨rfl,rfl,rfl,by simp,fun k _ hk=>setRow_other W g k _ (fun e=>hk (by rw [e]))⟩
structure EJ (n b B:Nat) (s:ByteArray) (p1 p3:Nat) (st:IS) (w:World) (zs cs:Array Value) (q:Nat) (W:World):Prop where
 v:VRd n b B s p1 p3 st W
 p:IPost n b B s st w W
 o:W.heap[w.heap.size]?=some (.cells zs 132 (0,0))
 r:W.heap[q]?=some (.cells cs 132 (0,0))
 q1:w.heap.size < q
attribute [local go_sem ↓] qhv qgu
attribute [local go_sem] qkf qit
set_option maxHeartbeats 20000000 in
theorem entry_any {n b B p1 p3:Nat} {s:ByteArray} {st:IS} {w:World} (h:VRd n b B s p1 p3 st w) (hs:s.size≤1000000) :
 Calls Tryz.prog 134 #[.pointer (some ⟨p3,0,none⟩),.pointer (some ⟨p1,0,none⟩)] w fun e w'=>OfP kdE entM nnE (fun x=>.agg (encE x).toArray) n b B s (enC.rd s.data.toList st) w e w':=by
 rcases e0:nC.rd s.data.toList st with ⟨st1,x0⟩
 rcases e1:nC.rd s.data.toList st1 with ⟨st2,x1⟩
 rcases e2:nC.rd s.data.toList st2 with ⟨st3,x2⟩
 rcases e3:nC.rd s.data.toList st3 with ⟨st4,x3⟩
 rcases e4:nC.rd s.data.toList st4 with ⟨st5,x4⟩
 rcases e5:nC.rd s.data.toList st5 with ⟨st6,x5⟩
 rcases e6:nC.rd s.data.toList st6 with ⟨st7,x6⟩
 rcases e7:nC.rd s.data.toList st7 with ⟨st8,x7⟩
 rcases e8:(qif 300 (by decide)).rd s.data.toList st8 with ⟨st9,x8⟩
 rcases e9:(rowC 6 (by decide)).rd s.data.toList st9 with ⟨st10,g⟩
 have EE:Hid (enC.rd s.data.toList st=(st10,([x0,x1,x2,x3,x4,x5,x6,x7],(x8,g)))):=qcb (manyR8 e0 e1 e2 e3 e4 e5 e6 e7) (qcb e8 e9)
 have E0:=hI e0
 have E1:=hI e1
 have E2:=hI e2
 have E3:=hI e3
 have E4:=hI e4
 have E5:=hI e5
 have E6:=hI e6
 have E7:=hI e7
 have E8:=hI e8
 have E9:=hI e9
 have M9:=hI (acks_of (qdf e9))
 rw [EE.out]
 clear e0 e1 e2 e3 e4 e5 e6 e7 e8 e9
 have H:=hI h
 have HS:=hI hs
 have HQN:=hI h.i.hn
 clear h hs
 obtain ⟨zs,hzs⟩:∃ y,y=(#[.int .i64 0,.int .i64 0,.int .i64 0,.int .i64 0,.int .i64 0,.int .i64 0,.int .i64 0,.int .i64 0,.string ⟨#[]⟩,.slice none 0 0]:Array Value):=⟨_,rfl⟩
 have HZ:zs.size=10:=by rw [hzs];rfl
 obtain ⟨cs,hcs⟩:∃ y,y=(#[.int .i64 (x0:Int),.int .i64 (x1:Int),.int .i64 (x2:Int),.int .i64 (x3:Int),.int .i64 (x4:Int),.int .i64 (x5:Int),.int .i64 (x6:Int),.int .i64 (x7:Int),.string ⟨#[]⟩,.slice none 0 0]:Array Value):=⟨_,rfl⟩
 have HI:cs.size=10:=by rw [hcs];rfl
 have H1:qbw cs=true:=by rw [hcs];simp [qbw,Value.oneCell']
 have HCS:=hI hcs
 have HZS:=hI hzs
 clear hcs hzs
 go_enter Tryz.func134,Tryz.ntmps134
 go_upto_region 1 with (fail)
 rw [←HZS.out]
 go_cut [3] from 4 to 20 (fun v wx=>∃ q,v=.pointer (some ⟨q,0,none⟩)∧EJ n b B s p1 p3 st8 w zs cs q wx)
 case first =>
  go_wp2_with fail
  refine qat (S:=fun W=>W.cell? ⟨p1,0,none⟩=some (.pointer (some ⟨B,0,none⟩))∧W.cell? ⟨p3,0,none⟩=some (.func (.func 76) #[.pointer (some ⟨B,0,none⟩)] #[])∧W.cell? ⟨B,0,none⟩=some (.pointer (some ⟨b,0,none⟩))) (by kernel_rfl) ?_
  obtain ⟨w0,hw0⟩:∃ W,W=(w.alloc (.cells zs 132)).drew:=⟨_,rfl⟩
  rw [←hw0]
  have B0:Hid (Below w.heap.size w w0):=by show Below _ _ _;rw [hw0];exact (bel1 w _).drew
  have Q0:Hid (w0.heap[w.heap.size]?=some (.cells zs 132 (0,0))):=by show _=_;rw [hw0];exact hA1 w _
  clear hw0
  have V0:=hI (H.out.below B0.out)
  have P0:=hI (IPost.of_below H.out.i B0.out)
  have hS:=V0.out.sw
  unfold SW at hS
  refine tkF 4 0 rfl rfl hS ?_
  simp only [Act.put,sA,s0,s1]
  refine tkF 6 2 rfl rfl hS ?_
  simp only [Act.put,sA,s0,s1]
  refine tkF 8 4 rfl rfl hS ?_
  simp only [Act.put,sA,s0,s1]
  refine tkF 10 6 rfl rfl hS ?_
  simp only [Act.put,sA,s0,s1]
  refine tkF 12 8 rfl rfl hS ?_
  simp only [Act.put,sA,s0,s1]
  refine tkF 14 10 rfl rfl hS ?_
  simp only [Act.put,sA,s0,s1]
  refine tkF 16 12 rfl rfl hS ?_
  simp only [Act.put,sA,s0,s1]
  refine tkF 18 14 rfl rfl hS ?_
  simp only [Act.put,sA,s0,s1]
  obtain ⟨wz,hwz⟩:∃ W,W=w0:=⟨_,rfl⟩
  rw [←hwz] at V0 P0 Q0 ⊢
  have V:=V0
  have P:=P0
  have Q:=Q0
  clear hwz V0 P0 Q0
  refine qam (rs:=[1,17]) (by kernel_rfl) (by simp) (AllReadyE.cons rfl (fun K hK=>?_) (AllReadyE.cons rfl (fun K hK=>?_) AllReadyE.nil))
  rotate_left
  go_simp
  rw [←HZS.out]
  have hb:=bel1 wz (.cells zs 132)
  replace V:=hI (V.out.below hb)
  replace P:=hI (P.out.below hb)
  have RN:Hid (n≤wz.heap.size∧w.heap.size < wz.heap.size):=⟨by have:=qaa Q.out;have:=HQN.out;omega,qaa Q.out⟩
  replace Q:=hI ((hb.block _ (qaa Q.out)).trans Q.out)
  have R:=hI (qah wz (.cells zs 132))
  obtain ⟨wa,hwa⟩:∃ W,W=wz.alloc (.cells zs 132):=⟨_,rfl⟩
  rw [←hwa] at V P Q R ⊢
  obtain ⟨q,hq⟩:∃ q,q=wz.heap.size:=⟨_,rfl⟩
  rw [←hq] at R RN ⊢
  clear hwa hb hq
  refine hK.out _ _ V.out.sw (fun _=>?_)
  clear hK K
  iterate 1 ((refine qam (rs:=[1]) (by kernel_rfl) (by simp) (AllReadyE.cons rfl (fun K hK=>?_) AllReadyE.nil));rotate_left)
  all_goals
   go_simp
   refine (qbr V.out HS.out E0.out).mono ?_
   rintro _ wz ⟨rfl,hp⟩
   replace V:=hI (V.out.post hp)
   replace P:=hI (P.out.trans hp)
   replace Q:=hI (hp.heap Q.out HQN.out)
   (try replace R:=hI (hp.heap R.out RN.out.1))
   refine hK.out _ _ V.out.sw (fun _=>?_)
   clear hK K hp
  refine qam (rs:=[3,17]) (by kernel_rfl) (by simp) (AllReadyE.cons rfl (fun K hK=>?_) (AllReadyE.cons rfl (fun K hK=>?_) AllReadyE.nil))
  rotate_left
  go_simp
  rw [←HZS.out]
  have hb:=bel1 wz (.cells zs 132)
  replace V:=hI (V.out.below hb)
  replace P:=hI (P.out.below hb)
  have RN:Hid (n≤wz.heap.size∧w.heap.size < wz.heap.size):=⟨by have:=qaa Q.out;have:=HQN.out;omega,qaa Q.out⟩
  replace Q:=hI ((hb.block _ (qaa Q.out)).trans Q.out)
  have R:=hI (qah wz (.cells zs 132))
  obtain ⟨wa,hwa⟩:∃ W,W=wz.alloc (.cells zs 132):=⟨_,rfl⟩
  rw [←hwa] at V P Q R ⊢
  obtain ⟨q,hq⟩:∃ q,q=wz.heap.size:=⟨_,rfl⟩
  rw [←hq] at R RN ⊢
  clear hwa hb hq
  refine hK.out _ _ V.out.sw (fun _=>?_)
  clear hK K
  iterate 2 ((refine qam (rs:=[3]) (by kernel_rfl) (by simp) (AllReadyE.cons rfl (fun K hK=>?_) AllReadyE.nil));rotate_left)
  all_goals
   go_simp
   refine (qbr V.out HS.out E1.out).mono ?_
   rintro _ wz ⟨rfl,hp⟩
   replace V:=hI (V.out.post hp)
   replace P:=hI (P.out.trans hp)
   replace Q:=hI (hp.heap Q.out HQN.out)
   (try replace R:=hI (hp.heap R.out RN.out.1))
   refine hK.out _ _ V.out.sw (fun _=>?_)
   clear hK K hp
  refine qam (rs:=[5,17]) (by kernel_rfl) (by simp) (AllReadyE.cons rfl (fun K hK=>?_) (AllReadyE.cons rfl (fun K hK=>?_) AllReadyE.nil))
  rotate_left
  go_simp
  rw [←HZS.out]
  have hb:=bel1 wz (.cells zs 132)
  replace V:=hI (V.out.below hb)
  replace P:=hI (P.out.below hb)
  have RN:Hid (n≤wz.heap.size∧w.heap.size < wz.heap.size):=⟨by have:=qaa Q.out;have:=HQN.out;omega,qaa Q.out⟩
  replace Q:=hI ((hb.block _ (qaa Q.out)).trans Q.out)
  have R:=hI (qah wz (.cells zs 132))
  obtain ⟨wa,hwa⟩:∃ W,W=wz.alloc (.cells zs 132):=⟨_,rfl⟩
  rw [←hwa] at V P Q R ⊢
  obtain ⟨q,hq⟩:∃ q,q=wz.heap.size:=⟨_,rfl⟩
  rw [←hq] at R RN ⊢
  clear hwa hb hq
  refine hK.out _ _ V.out.sw (fun _=>?_)
  clear hK K
  iterate 3 ((refine qam (rs:=[5]) (by kernel_rfl) (by simp) (AllReadyE.cons rfl (fun K hK=>?_) AllReadyE.nil));rotate_left)
  all_goals
   go_simp
   refine (qbr V.out HS.out E2.out).mono ?_
   rintro _ wz ⟨rfl,hp⟩
   replace V:=hI (V.out.post hp)
   replace P:=hI (P.out.trans hp)
   replace Q:=hI (hp.heap Q.out HQN.out)
   (try replace R:=hI (hp.heap R.out RN.out.1))
   refine hK.out _ _ V.out.sw (fun _=>?_)
   clear hK K hp
  refine qam (rs:=[7,17]) (by kernel_rfl) (by simp) (AllReadyE.cons rfl (fun K hK=>?_) (AllReadyE.cons rfl (fun K hK=>?_) AllReadyE.nil))
  rotate_left
  go_simp
  rw [←HZS.out]
  have hb:=bel1 wz (.cells zs 132)
  replace V:=hI (V.out.below hb)
  replace P:=hI (P.out.below hb)
  have RN:Hid (n≤wz.heap.size∧w.heap.size < wz.heap.size):=⟨by have:=qaa Q.out;have:=HQN.out;omega,qaa Q.out⟩
  replace Q:=hI ((hb.block _ (qaa Q.out)).trans Q.out)
  have R:=hI (qah wz (.cells zs 132))
  obtain ⟨wa,hwa⟩:∃ W,W=wz.alloc (.cells zs 132):=⟨_,rfl⟩
  rw [←hwa] at V P Q R ⊢
  obtain ⟨q,hq⟩:∃ q,q=wz.heap.size:=⟨_,rfl⟩
  rw [←hq] at R RN ⊢
  clear hwa hb hq
  refine hK.out _ _ V.out.sw (fun _=>?_)
  clear hK K
  iterate 4 ((refine qam (rs:=[7]) (by kernel_rfl) (by simp) (AllReadyE.cons rfl (fun K hK=>?_) AllReadyE.nil));rotate_left)
  all_goals
   go_simp
   refine (qbr V.out HS.out E3.out).mono ?_
   rintro _ wz ⟨rfl,hp⟩
   replace V:=hI (V.out.post hp)
   replace P:=hI (P.out.trans hp)
   replace Q:=hI (hp.heap Q.out HQN.out)
   (try replace R:=hI (hp.heap R.out RN.out.1))
   refine hK.out _ _ V.out.sw (fun _=>?_)
   clear hK K hp
  refine qam (rs:=[9,17]) (by kernel_rfl) (by simp) (AllReadyE.cons rfl (fun K hK=>?_) (AllReadyE.cons rfl (fun K hK=>?_) AllReadyE.nil))
  rotate_left
  go_simp
  rw [←HZS.out]
  have hb:=bel1 wz (.cells zs 132)
  replace V:=hI (V.out.below hb)
  replace P:=hI (P.out.below hb)
  have RN:Hid (n≤wz.heap.size∧w.heap.size < wz.heap.size):=⟨by have:=qaa Q.out;have:=HQN.out;omega,qaa Q.out⟩
  replace Q:=hI ((hb.block _ (qaa Q.out)).trans Q.out)
  have R:=hI (qah wz (.cells zs 132))
  obtain ⟨wa,hwa⟩:∃ W,W=wz.alloc (.cells zs 132):=⟨_,rfl⟩
  rw [←hwa] at V P Q R ⊢
  obtain ⟨q,hq⟩:∃ q,q=wz.heap.size:=⟨_,rfl⟩
  rw [←hq] at R RN ⊢
  clear hwa hb hq
  refine hK.out _ _ V.out.sw (fun _=>?_)
  clear hK K
  iterate 5 ((refine qam (rs:=[9]) (by kernel_rfl) (by simp) (AllReadyE.cons rfl (fun K hK=>?_) AllReadyE.nil));rotate_left)
  all_goals
   go_simp
   refine (qbr V.out HS.out E4.out).mono ?_
   rintro _ wz ⟨rfl,hp⟩
   replace V:=hI (V.out.post hp)
   replace P:=hI (P.out.trans hp)
   replace Q:=hI (hp.heap Q.out HQN.out)
   (try replace R:=hI (hp.heap R.out RN.out.1))
   refine hK.out _ _ V.out.sw (fun _=>?_)
   clear hK K hp
  refine qam (rs:=[11,17]) (by kernel_rfl) (by simp) (AllReadyE.cons rfl (fun K hK=>?_) (AllReadyE.cons rfl (fun K hK=>?_) AllReadyE.nil))
  rotate_left
  go_simp
  rw [←HZS.out]
  have hb:=bel1 wz (.cells zs 132)
  replace V:=hI (V.out.below hb)
  replace P:=hI (P.out.below hb)
  have RN:Hid (n≤wz.heap.size∧w.heap.size < wz.heap.size):=⟨by have:=qaa Q.out;have:=HQN.out;omega,qaa Q.out⟩
  replace Q:=hI ((hb.block _ (qaa Q.out)).trans Q.out)
  have R:=hI (qah wz (.cells zs 132))
  obtain ⟨wa,hwa⟩:∃ W,W=wz.alloc (.cells zs 132):=⟨_,rfl⟩
  rw [←hwa] at V P Q R ⊢
  obtain ⟨q,hq⟩:∃ q,q=wz.heap.size:=⟨_,rfl⟩
  rw [←hq] at R RN ⊢
  clear hwa hb hq
  refine hK.out _ _ V.out.sw (fun _=>?_)
  clear hK K
  iterate 6 ((refine qam (rs:=[11]) (by kernel_rfl) (by simp) (AllReadyE.cons rfl (fun K hK=>?_) AllReadyE.nil));rotate_left)
  all_goals
   go_simp
   refine (qbr V.out HS.out E5.out).mono ?_
   rintro _ wz ⟨rfl,hp⟩
   replace V:=hI (V.out.post hp)
   replace P:=hI (P.out.trans hp)
   replace Q:=hI (hp.heap Q.out HQN.out)
   (try replace R:=hI (hp.heap R.out RN.out.1))
   refine hK.out _ _ V.out.sw (fun _=>?_)
   clear hK K hp
  refine qam (rs:=[13,17]) (by kernel_rfl) (by simp) (AllReadyE.cons rfl (fun K hK=>?_) (AllReadyE.cons rfl (fun K hK=>?_) AllReadyE.nil))
  rotate_left
  go_simp
  rw [←HZS.out]
  have hb:=bel1 wz (.cells zs 132)
  replace V:=hI (V.out.below hb)
  replace P:=hI (P.out.below hb)
  have RN:Hid (n≤wz.heap.size∧w.heap.size < wz.heap.size):=⟨by have:=qaa Q.out;have:=HQN.out;omega,qaa Q.out⟩
  replace Q:=hI ((hb.block _ (qaa Q.out)).trans Q.out)
  have R:=hI (qah wz (.cells zs 132))
  obtain ⟨wa,hwa⟩:∃ W,W=wz.alloc (.cells zs 132):=⟨_,rfl⟩
  rw [←hwa] at V P Q R ⊢
  obtain ⟨q,hq⟩:∃ q,q=wz.heap.size:=⟨_,rfl⟩
  rw [←hq] at R RN ⊢
  clear hwa hb hq
  refine hK.out _ _ V.out.sw (fun _=>?_)
  clear hK K
  iterate 7 ((refine qam (rs:=[13]) (by kernel_rfl) (by simp) (AllReadyE.cons rfl (fun K hK=>?_) AllReadyE.nil));rotate_left)
  all_goals
   go_simp
   refine (qbr V.out HS.out E6.out).mono ?_
   rintro _ wz ⟨rfl,hp⟩
   replace V:=hI (V.out.post hp)
   replace P:=hI (P.out.trans hp)
   replace Q:=hI (hp.heap Q.out HQN.out)
   (try replace R:=hI (hp.heap R.out RN.out.1))
   refine hK.out _ _ V.out.sw (fun _=>?_)
   clear hK K hp
  refine qam (rs:=[15,17]) (by kernel_rfl) (by simp) (AllReadyE.cons rfl (fun K hK=>?_) (AllReadyE.cons rfl (fun K hK=>?_) AllReadyE.nil))
  rotate_left
  go_simp
  rw [←HZS.out]
  have hb:=bel1 wz (.cells zs 132)
  replace V:=hI (V.out.below hb)
  replace P:=hI (P.out.below hb)
  have RN:Hid (n≤wz.heap.size∧w.heap.size < wz.heap.size):=⟨by have:=qaa Q.out;have:=HQN.out;omega,qaa Q.out⟩
  replace Q:=hI ((hb.block _ (qaa Q.out)).trans Q.out)
  have R:=hI (qah wz (.cells zs 132))
  obtain ⟨wa,hwa⟩:∃ W,W=wz.alloc (.cells zs 132):=⟨_,rfl⟩
  rw [←hwa] at V P Q R ⊢
  obtain ⟨q,hq⟩:∃ q,q=wz.heap.size:=⟨_,rfl⟩
  rw [←hq] at R RN ⊢
  clear hwa hb hq
  refine hK.out _ _ V.out.sw (fun _=>?_)
  clear hK K
  iterate 8 ((refine qam (rs:=[15]) (by kernel_rfl) (by simp) (AllReadyE.cons rfl (fun K hK=>?_) AllReadyE.nil));rotate_left)
  all_goals
   go_simp
   refine (qbr V.out HS.out E7.out).mono ?_
   rintro _ wz ⟨rfl,hp⟩
   replace V:=hI (V.out.post hp)
   replace P:=hI (P.out.trans hp)
   replace Q:=hI (hp.heap Q.out HQN.out)
   (try replace R:=hI (hp.heap R.out RN.out.1))
   refine hK.out _ _ V.out.sw (fun _=>?_)
   clear hK K hp
   have hS:=V.out.sw
   unfold SW at hS
   refine tkF 20 16 rfl rfl hS ?_
   simp only [Act.put,sA,s0,s1]
  refine rdy1 17 rfl (fun K hK=>?_)
  go_simp
  rw [←HZS.out]
  have hb:=bel1 wz (.cells zs 132)
  replace V:=hI (V.out.below hb)
  replace P:=hI (P.out.below hb)
  have RN:Hid (n≤wz.heap.size∧w.heap.size < wz.heap.size):=⟨by have:=qaa Q.out;have:=HQN.out;omega,qaa Q.out⟩
  replace Q:=hI ((hb.block _ (qaa Q.out)).trans Q.out)
  have R:=hI (qah wz (.cells zs 132))
  obtain ⟨wa,hwa⟩:∃ W,W=wz.alloc (.cells zs 132):=⟨_,rfl⟩
  rw [←hwa] at V P Q R ⊢
  obtain ⟨q,hq⟩:∃ q,q=wz.heap.size:=⟨_,rfl⟩
  rw [←hq] at R RN ⊢
  clear hwa hb hq
  refine hK.out _ _ V.out.sw (fun _=>?_)
  clear hK K
  all_goals
   rw [←HCS.out]
   have hbx:=qcd _ q _ _ cs R.out (by rw [HZ,HI]) H1
   refine rdyL 18 rfl (fun K hK=>?_)
   go_simp
   refine hK.out _ _ ?_
   clear hK K hbx
   refine qas (by kernel_rfl) ?_ _
   go_wp2
   go_meet
   have hp:=P.out.box R.out (by decide) (Nat.le_of_lt RN.out.2) HQN.out H.out.ge (qbu _ q cs)
   exact ⟨q,rfl,H.out.post hp,hp,((qbu _ q cs).block _ (qaa Q.out) (by intro e;injection e with e;have:=RN.out.2;omega)).trans Q.out,setRow_heap _ q _ cs _ _ R.out,RN.out.2⟩
 obtain ⟨q,rfl,hEJ⟩:=hcut
 have VJ:=hI hEJ.v
 have PJ:=hI hEJ.p
 have OJ:=hI hEJ.o
 have RJ:=hI hEJ.r
 have QN:Hid (n≤q∧w.heap.size < q):=⟨by have:=hEJ.q1;have:=HQN.out;omega,hEJ.q1⟩
 have v1:=VJ.out.v1
 have c0:=VJ.out.i.c0
 clear hEJ
 go_wp2_with fail
 refine (qql VJ.out HS.out E8.out).mono ?_
 rintro _ w1 ⟨rfl,hp⟩
 have P1:=hI (PJ.out.trans hp)
 have O1:=hI (hp.heap OJ.out HQN.out)
 have R1:=hI (hp.heap RJ.out QN.out.1)
 clear hp v1 c0
 have c8:w1.cell? ⟨q,8,none⟩=some (.string ⟨#[]⟩):=by rw [qab R1.out,HCS.out];rfl
 have f8:=Lib.frozen_of_heap R1.out 8
 go_upto_region 3 with (fail)
 have hg:w1.grownBy (w1.setCell ⟨q,8,none⟩ (.string ⟨x8.toArray⟩)) (some q):=qal (World.grownBy.refl _ _) rfl _
 have P2:=hI (P1.out.box R1.out (by decide) (Nat.le_of_lt QN.out.2) HQN.out H.out.ge hg)
 have O2:=hI ((hg.block _ (qaa O1.out) (by intro e;injection e with e;have:=QN.out.2;omega)).trans O1.out)
 have R2:=hI (qaj R1.out 8 (.string ⟨x8.toArray⟩))
 obtain ⟨w2,hw2⟩:∃ W,W=w1.setCell ⟨q,8,none⟩ (.string ⟨x8.toArray⟩):=⟨_,rfl⟩
 rw [←hw2] at P2 O2 R2 ⊢
 clear hw2 hg c8 f8 P1 O1 R1
 have V2:=hI (H.out.post P2.out)
 have v1:=V2.out.v1
 go_wp2_with fail
 refine (vgrpK_any V2.out HS.out E9.out).mono ?_
 rintro _ w3 ⟨A,cg,rfl,hr,hcz,hno,hfr,hp⟩
 have P3:=hI (P2.out.trans hp)
 have O3:=hI (hp.heap O2.out HQN.out)
 have R3:=hI (hp.heap R2.out QN.out.1)
 have RD:=hI hr
 have CZ:=hI hcz
 have F3:Hid (Fr (q + 1) A):=hfr.mono (qaa R2.out)
 clear hr hcz hno hfr hp v1
 have c9:w3.cell? ⟨q,9,none⟩=some (.slice none 0 0):=by rw [qab R3.out,HCS.out];rfl
 have f9:=Lib.frozen_of_heap R3.out 9
 go_upto_region 4 with (fail)
 have hg:w3.grownBy (w3.setCell ⟨q,9,none⟩ (.slice A (qbv g).size cg)) (some q):=qal (World.grownBy.refl _ _) rfl _
 have P4:=hI (P3.out.box R3.out (by decide) (Nat.le_of_lt QN.out.2) HQN.out H.out.ge hg)
 have O4:=hI ((hg.block _ (qaa O3.out) (by intro e;injection e with e;have:=QN.out.2;omega)).trans O3.out)
 have R4:=hI (qaj R3.out 9 (.slice A (qbv g).size cg))
 have RD4:=hI (RD.out.keepB hg.size (fun blk hb=>hg.block blk (RD.out.ltB hb) (by have:=hb.fr F3.out;intro e;injection e with e;omega)))
 obtain ⟨w4,hw4⟩:∃ W,W=w3.setCell ⟨q,9,none⟩ (.slice A (qbv g).size cg):=⟨_,rfl⟩
 rw [←hw4] at P4 O4 R4 RD4 ⊢
 clear hw4 hg c9 f9 P3 O3 R3 RD V2 P2 O2 R2 VJ PJ OJ RJ
 obtain ⟨ce,hce⟩:∃ y,(cs.setIfInBounds 8 (.string ⟨x8.toArray⟩)).setIfInBounds 9 (.slice A (qbv g).size cg)=y:=⟨_,rfl⟩
 rw [hce] at R4
 have HCE:Hid (ce=#[.int .i64 (x0:Int),.int .i64 (x1:Int),.int .i64 (x2:Int),.int .i64 (x3:Int),.int .i64 (x4:Int),.int .i64 (x5:Int),.int .i64 (x6:Int),.int .i64 (x7:Int),(.string ⟨x8.toArray⟩),(.slice A (qbv g).size cg)]):=by show _=_;rw [←hce,HCS.out];rfl
 have HI2:ce.size=10:=by rw [←hce,Array.size_setIfInBounds,Array.size_setIfInBounds];exact HI
 have H2:qbw ce=true:=by rw [HCE.out];simp [qbw,Value.oneCell']
 clear hce HI H1
 have x1:=qav R4.out HI2
 have x2:=qbh R4.out
 have x3:=qav O4.out HZ
 go_wp2
 clear x1 x2 x3
 have hg:=qbu w4 w.heap.size ce
 have hE:=setRow_heap w4 w.heap.size _ ce _ _ O4.out
 refine bodyPost_ret (v:=.agg ce) (qsq (t:=2) rfl rfl hE HI2) rfl ?_
 have hK:RdE0 w4 ⟨(x0:Int),(x1:Int),(x2:Int),(x3:Int),(x4:Int),(x5:Int),(x6:Int),(x7:Int),⟨x8.toArray⟩,A,cg,qbv g⟩:=⟨RD4.out,CZ.out⟩
 refine ⟨⟨(x0:Int),(x1:Int),(x2:Int),(x3:Int),(x4:Int),(x5:Int),(x6:Int),(x7:Int),⟨x8.toArray⟩,A,cg,qbv g⟩,by rw [HCE.out];rfl,kdE.keep hK hg.size (fun blk hb=>hg.block blk (kdE.lt hK hb) (by have h1:rwB A (qbv g) blk:=hb;have:=h1.fr F3.out;have:=QN.out.2;intro e;injection e with e;omega)),(fun blk hb=>by have h1:rwB A (qbv g) blk:=hb;have:=h1.fr F3.out;have:=QN.out.2;omega),?_,⟨by simp only;omega,M9.out.2⟩,P4.out.box O4.out (by decide) (Nat.le_refl _) HQN.out H.out.ge hg⟩
 show (ent8 _,(x8,(qbv g).toList.map ackN))=_
 rw [M9.out.1]
 rfl
end Go.Proofs.YtnmojicfmcbgmaaGreatDoor
namespace Go.Proofs.YtnmojicfmcbgmaaGreatDoor
open Go.RowKit Go.Sort Go.Lib Nb
set_option maxRecDepth 100000
def WQ (B b:Nat) (l:List UInt8) (W:World) (e:Ending) (w':World):Prop:=e=.returned (.tuple #[])∧Wrt B b l w'∧Below B W w'∧KeepT b W w'
theorem qiu {w:World} {g:Nat} {xs:List Value} {e:TypeId} (h:w.heap[g]?=some (.cells xs.toArray e (0,0))):∀ j u,xs[j]?=some u→w.cell? (Addr.add ⟨g,0,none⟩ j)=some u:=by
 intro j u hj
 have:=cell_of_row w g j _ _ (0,0) h
 rw [List.getElem?_toArray] at this
 rw [Addr.add_lit,Nat.zero_add]
 exact this.trans hj
theorem qiv (l:List Int):nats l.toArray=l.map Int.toNat:=by simp [nats]
theorem qhz {l:List Int} (h:∀ x ∈ l,may6 x):LayN l.toArray:=by
 intro i hi
 have hi':i < l.length:=by simpa using hi
 have hm:l.toArray[i]! ∈ l:=by
  rw [getElem!_pos l.toArray i hi]
  simp
 have:=h _ hm
 unfold may6 at this
 omega
def ackM (d:Array AK):GS:=d.toList.map ackN
theorem qbi {α β:Type} [Inhabited α] (d:Array α) (f:α→List β) {k:Nat} (h:k < d.size):(d.toList.take (k + 1)).flatMap f=(d.toList.take k).flatMap f ++ f d[k]!:=by
 rw [List.take_add_one,List.getElem?_eq_getElem (by simpa using h),List.flatMap_append,getElem!_pos d k h]
 simp
def celA (x:Int×Int):List Int:=[x.1,x.2]
theorem qoq (x:Int×Int):(celA x).length=2:=rfl
theorem ofA_any (x:Int×Int) (w:World):Calls Tryz.prog 25 #[.agg (qbe x).toArray] w fun e w'=>∃ g,e=.returned (.slice (some ⟨g,0,none⟩) 2 2)∧w'.heap[g]?=some (.cells ((celA x).map (Value.int .i64)).toArray 3 (0,0))∧w.heap.size≤g∧Below w.heap.size w w':=by
 have HB:=hI (fun o1 o2=>qad (bel1 w o1) o2)
 have HG:=hI (fun a b s t=>heap_alloc2_new w (.cells a s) (.cells b t))
 simp only [qbe]
 go_enter Tryz.func25,Tryz.ntmps25
 go_wp2
 go_ret
 exact ⟨w.heap.size + 1,rfl,HG.out _ _ _ _,Nat.le_succ _,HB.out _ _⟩
theorem qvb {d:Array (Int×Int)}:nats (d.toList.flatMap celA).toArray=(qbg d).flatten:=by
 rw [qiv]
 unfold qbg
 rw [←List.flatMap_def,List.map_flatMap]
 rfl
theorem qvc {d:Array (Int×Int)} (h:∀ x ∈ d.toList,may6 x.1∧may6 x.2):∀ y ∈ d.toList.flatMap celA,may6 y:=by
 intro y hy
 obtain ⟨x,hx,hy⟩:=List.mem_flatMap.1 hy
 have hm:=h x hx
 unfold celA at hy
 simp only [List.mem_cons,List.not_mem_nil,or_false] at hy
 rcases hy with rfl | rfl <;> first | exact hm.1 | exact hm.2 | exact hm.2.1 | exact hm.2.2.1 | exact hm.2.2.2.1 | exact hm.2.2.2.2.1 | exact hm.2.2.2.2.2
theorem qgv (d:Array (Int×Int)):∀ k,k≤d.size→((d.toList.take k).flatMap celA).length=k * 2:=by
 intro k
 induction k with
 | zero=>intro _;simp
 | succ k ih =>
   intro hk
   rw [qbi d celA (by omega),List.length_append,ih (by omega),qoq]
   omega
set_option maxHeartbeats 4000000 in
theorem rowA_any (B b:Nat) (l:List UInt8) (A:Option Addr) (c:Nat) (d:Array (Int×Int)) (w:World) (h:Wrt B b l w) (hr:RdK qbe 2 w.heap.size w A d) (hm:∀ x ∈ d.toList,may6 x.1∧may6 x.2) (hs:d.size≤1000) (hl:l.length≤800000000) (hB:B≤w.heap.size) :
 Calls Tryz.prog 24 #[.pointer (some ⟨b,0,none⟩),.slice A d.size c,.func (.func 25) #[] #[]] w fun e w'=>WQ B b (l ++ rowB (qbg d).flatten) w e w':=by
 obtain ⟨i0,hi0,hz0,hz1,hz2⟩:=info_parts qfg
 have HR:=hI hr
 have HM:=hI hm
 have HW:=hI h
 clear hr hm h
 go_enter Tryz.func24,Tryz.ntmps24
 go_wp2
 go_loopw [6,11] (fun v i wr=>∃ (k:Nat) (xs:List Int),i=.int .i64 k∧k≤d.size∧Hid (xs=(d.toList.take k).flatMap celA)∧wr.ownsRow w.heap.size 3 1 v xs.length (xs.map (Value.int .i64))∧Hid (Below w.heap.size w wr)) (fun _ i _=>d.size - (intOf i).toNat)
 case atStart=>exact ⟨0,[],rfl,Nat.zero_le _,hI (by simp),World.ownsRow_nil _ _ _ _,hI (Below.refl _ _)⟩
 case round =>
  obtain ⟨k,xs,rfl,hk,HX,hown,HB⟩:=hrel
  by_cases hlt:k < d.size
  ·have kz:(k:Int) < (d.size:Int):=by omega
   have HS:Hid ((d.toList.take (k + 1)).flatMap celA=xs ++ celA d[k]!):=by show _=_;rw [qbi _ _ hlt,←HX.out]
   have hxl:xs.length≤6000:=by rw [HX.out,qgv d k hk];omega
   obtain ⟨b2,off,rfl,hbl,f⟩:=(HR.out.below HB.out).at_ (i:=k) (by omega)
   obtain ⟨x,hx⟩:∃ x,d[k]! = x:=⟨_,rfl⟩
   rw [hx] at f HS
   have e0:=f 0 (by omega)
   have e1:=f 1 (by omega)
   clear hx f
   simp only [Nat.add_zero,qbe,List.getElem!_cons_zero,List.getElem!_cons_succ] at e0 e1
   have HC:=hI (fun W=>ofA_any x W)
   simp only [qbe] at HC
   have HOW:=hI hown
   clear hown
   go_wp2_with (first
    | (go_at_call 25;refine (HC.out _).mono ?_;rintro _ w2 ⟨g,rfl,hg,hgl,hb⟩;have HB2:=hI (qac (qad HB.out _) hb);have hown2:=qhi HOW.out (qac (bel1 wr _) hb);have HG:=hI hg;clear hb hg)
    | (at_builtin;refine wpList_append_own _ rfl _ _ 26 rfl w.heap.size 3 i0 (.int .i64 0) 1 8 Tryz.underlying26 hi0 hz0 hz1 hz2 rfl (by decide) _ _ _ rfl hown2 ⟨g,0,none⟩ 2 2 ((celA x).map (Value.int .i64)) rfl (by simp [qoq]) (qiu HG.out) (by intro u hu;obtain ⟨y,_,rfl⟩:=List.mem_map.1 hu;rfl) (by unfold maxLen;omega) (by omega) HB2.out.size ?_;intro v' w3 hown3 hgrow _))
   go_roundw
   case rel=>exact ⟨k + 1,xs ++ celA x,by go_num,by omega,hI HS.out.symm,by simpa [qoq] using hown3,hI (HB2.out.grown hgrow HB2.out.size (qgz hown2))⟩
   case measure=>simp [intOf];omega
  ·have hlt':decide ((k:Int) < (d.size:Int))=false:=decide_eq_false (by omega)
   have hkd:k=d.size:=by omega
   have hxs:xs=d.toList.flatMap celA:=by rw [HX.out,hkd,List.take_of_length_le (by simp)]
   have hsz:=qgv d k hk
   rw [←HX.out] at hsz
   obtain ⟨A2,c2,rfl,hrd⟩:=qdm hown
   have HWR:=hI (qkt B b l A2 c2 xs.toArray wr (HW.out.below HB.out) hrd (qhz (by rw [hxs];exact qvc HM.out)) (by simp;omega) (by omega) (Nat.le_trans hB HB.out.size))
   have HXS:=hI hxs
   simp only [List.size_toArray] at HWR
   clear hxs hrd hown hsz HX
   go_wp2_with fail
   refine HWR.out.mono ?_
   rintro _ w5 ⟨rfl,h5,hb5,hk5⟩
   rw [HXS.out,qvb] at h5
   have H5:=hI h5
   have HB5:=hI hb5
   have HK5:=hI hk5
   clear h5 hb5 hk5
   go_wp2
   go_end0
   exact ⟨rfl,H5.out,(HB.out.mono hB).trans HB5.out,(KeepT.of_below HB.out).trans HK5.out⟩
def celR (x:Int×Int):List Int:=[x.1,x.2]
theorem qor (x:Int×Int):(celR x).length=2:=rfl
theorem ofR_any (x:Int×Int) (w:World):Calls Tryz.prog 69 #[.agg (encR x).toArray] w fun e w'=>∃ g,e=.returned (.slice (some ⟨g,0,none⟩) 2 2)∧w'.heap[g]?=some (.cells ((celR x).map (Value.int .i64)).toArray 3 (0,0))∧w.heap.size≤g∧Below w.heap.size w w':=by
 have HB:=hI (fun o1 o2=>qad (bel1 w o1) o2)
 have HG:=hI (fun a b s t=>heap_alloc2_new w (.cells a s) (.cells b t))
 simp only [encR]
 go_enter Tryz.func69,Tryz.ntmps69
 go_wp2
 go_ret
 exact ⟨w.heap.size + 1,rfl,HG.out _ _ _ _,Nat.le_succ _,HB.out _ _⟩
theorem qvd {d:Array (Int×Int)}:nats (d.toList.flatMap celR).toArray=(qbg d).flatten:=by
 rw [qiv]
 unfold qbg
 rw [←List.flatMap_def,List.map_flatMap]
 rfl
theorem qve {d:Array (Int×Int)} (h:∀ x ∈ d.toList,may6 x.1∧may6 x.2):∀ y ∈ d.toList.flatMap celR,may6 y:=by
 intro y hy
 obtain ⟨x,hx,hy⟩:=List.mem_flatMap.1 hy
 have hm:=h x hx
 unfold celR at hy
 simp only [List.mem_cons,List.not_mem_nil,or_false] at hy
 rcases hy with rfl | rfl <;> first | exact hm.1 | exact hm.2 | exact hm.2.1 | exact hm.2.2.1 | exact hm.2.2.2.1 | exact hm.2.2.2.2.1 | exact hm.2.2.2.2.2
theorem qgw (d:Array (Int×Int)):∀ k,k≤d.size→((d.toList.take k).flatMap celR).length=k * 2:=by
 intro k
 induction k with
 | zero=>intro _;simp
 | succ k ih =>
   intro hk
   rw [qbi d celR (by omega),List.length_append,ih (by omega),qor]
   omega
set_option maxHeartbeats 4000000 in
theorem rowR_any (B b:Nat) (l:List UInt8) (A:Option Addr) (c:Nat) (d:Array (Int×Int)) (w:World) (h:Wrt B b l w) (hr:RdK encR 2 w.heap.size w A d) (hm:∀ x ∈ d.toList,may6 x.1∧may6 x.2) (hs:d.size≤1000) (hl:l.length≤800000000) (hB:B≤w.heap.size) :
 Calls Tryz.prog 68 #[.pointer (some ⟨b,0,none⟩),.slice A d.size c,.func (.func 69) #[] #[]] w fun e w'=>WQ B b (l ++ rowB (qbg d).flatten) w e w':=by
 obtain ⟨i0,hi0,hz0,hz1,hz2⟩:=info_parts qfg
 have HR:=hI hr
 have HM:=hI hm
 have HW:=hI h
 clear hr hm h
 go_enter Tryz.func68,Tryz.ntmps68
 go_wp2
 go_loopw [6,11] (fun v i wr=>∃ (k:Nat) (xs:List Int),i=.int .i64 k∧k≤d.size∧Hid (xs=(d.toList.take k).flatMap celR)∧wr.ownsRow w.heap.size 3 1 v xs.length (xs.map (Value.int .i64))∧Hid (Below w.heap.size w wr)) (fun _ i _=>d.size - (intOf i).toNat)
 case atStart=>exact ⟨0,[],rfl,Nat.zero_le _,hI (by simp),World.ownsRow_nil _ _ _ _,hI (Below.refl _ _)⟩
 case round =>
  obtain ⟨k,xs,rfl,hk,HX,hown,HB⟩:=hrel
  by_cases hlt:k < d.size
  ·have kz:(k:Int) < (d.size:Int):=by omega
   have HS:Hid ((d.toList.take (k + 1)).flatMap celR=xs ++ celR d[k]!):=by show _=_;rw [qbi _ _ hlt,←HX.out]
   have hxl:xs.length≤6000:=by rw [HX.out,qgw d k hk];omega
   obtain ⟨b2,off,rfl,hbl,f⟩:=(HR.out.below HB.out).at_ (i:=k) (by omega)
   obtain ⟨x,hx⟩:∃ x,d[k]! = x:=⟨_,rfl⟩
   rw [hx] at f HS
   have e0:=f 0 (by omega)
   have e1:=f 1 (by omega)
   clear hx f
   simp only [Nat.add_zero,encR,List.getElem!_cons_zero,List.getElem!_cons_succ] at e0 e1
   have HC:=hI (fun W=>ofR_any x W)
   simp only [encR] at HC
   have HOW:=hI hown
   clear hown
   go_wp2_with (first
    | (go_at_call 69;refine (HC.out _).mono ?_;rintro _ w2 ⟨g,rfl,hg,hgl,hb⟩;have HB2:=hI (qac (qad HB.out _) hb);have hown2:=qhi HOW.out (qac (bel1 wr _) hb);have HG:=hI hg;clear hb hg)
    | (at_builtin;refine wpList_append_own _ rfl _ _ 26 rfl w.heap.size 3 i0 (.int .i64 0) 1 8 Tryz.underlying26 hi0 hz0 hz1 hz2 rfl (by decide) _ _ _ rfl hown2 ⟨g,0,none⟩ 2 2 ((celR x).map (Value.int .i64)) rfl (by simp [qor]) (qiu HG.out) (by intro u hu;obtain ⟨y,_,rfl⟩:=List.mem_map.1 hu;rfl) (by unfold maxLen;omega) (by omega) HB2.out.size ?_;intro v' w3 hown3 hgrow _))
   go_roundw
   case rel=>exact ⟨k + 1,xs ++ celR x,by go_num,by omega,hI HS.out.symm,by simpa [qor] using hown3,hI (HB2.out.grown hgrow HB2.out.size (qgz hown2))⟩
   case measure=>simp [intOf];omega
  ·have hlt':decide ((k:Int) < (d.size:Int))=false:=decide_eq_false (by omega)
   have hkd:k=d.size:=by omega
   have hxs:xs=d.toList.flatMap celR:=by rw [HX.out,hkd,List.take_of_length_le (by simp)]
   have hsz:=qgw d k hk
   rw [←HX.out] at hsz
   obtain ⟨A2,c2,rfl,hrd⟩:=qdm hown
   have HWR:=hI (qkt B b l A2 c2 xs.toArray wr (HW.out.below HB.out) hrd (qhz (by rw [hxs];exact qve HM.out)) (by simp;omega) (by omega) (Nat.le_trans hB HB.out.size))
   have HXS:=hI hxs
   simp only [List.size_toArray] at HWR
   clear hxs hrd hown hsz HX
   go_wp2_with fail
   refine HWR.out.mono ?_
   rintro _ w5 ⟨rfl,h5,hb5,hk5⟩
   rw [HXS.out,qvd] at h5
   have H5:=hI h5
   have HB5:=hI hb5
   have HK5:=hI hk5
   clear h5 hb5 hk5
   go_wp2
   go_end0
   exact ⟨rfl,H5.out,(HB.out.mono hB).trans HB5.out,(KeepT.of_below HB.out).trans HK5.out⟩
def celK (x:AK):List Int:=[x.kind,x.frm,x.bal,x.t,x.abal,x.ph]
theorem qiw (x:AK):(celK x).length=6:=rfl
theorem ofK_any (x:AK) (w:World):Calls Tryz.prog 66 #[.agg (encK x).toArray] w fun e w'=>∃ g,e=.returned (.slice (some ⟨g,0,none⟩) 6 6)∧w'.heap[g]?=some (.cells ((celK x).map (Value.int .i64)).toArray 3 (0,0))∧w.heap.size≤g∧Below w.heap.size w w':=by
 have HB:=hI (fun o1 o2=>qad (bel1 w o1) o2)
 have HG:=hI (fun a b s t=>heap_alloc2_new w (.cells a s) (.cells b t))
 simp only [encK]
 go_enter Tryz.func66,Tryz.ntmps66
 go_wp2
 go_ret
 exact ⟨w.heap.size + 1,rfl,HG.out _ _ _ _,Nat.le_succ _,HB.out _ _⟩
theorem qvf {d:Array (AK)}:nats (d.toList.flatMap celK).toArray=(ackM d).flatten:=by
 rw [qiv]
 unfold ackM
 rw [←List.flatMap_def,List.map_flatMap]
 rfl
theorem qvg {d:Array (AK)} (h:∀ x ∈ d.toList,may6 x.kind∧may6 x.frm∧may6 x.bal∧may6 x.t∧may6 x.abal∧may6 x.ph):∀ y ∈ d.toList.flatMap celK,may6 y:=by
 intro y hy
 obtain ⟨x,hx,hy⟩:=List.mem_flatMap.1 hy
 have hm:=h x hx
 unfold celK at hy
 simp only [List.mem_cons,List.not_mem_nil,or_false] at hy
 rcases hy with rfl | rfl | rfl | rfl | rfl | rfl <;> first | exact hm.1 | exact hm.2 | exact hm.2.1 | exact hm.2.2.1 | exact hm.2.2.2.1 | exact hm.2.2.2.2.1 | exact hm.2.2.2.2.2
theorem qln (d:Array (AK)):∀ k,k≤d.size→((d.toList.take k).flatMap celK).length=k * 6:=by
 intro k
 induction k with
 | zero=>intro _;simp
 | succ k ih =>
   intro hk
   rw [qbi d celK (by omega),List.length_append,ih (by omega),qiw]
   omega
set_option maxHeartbeats 4000000 in
theorem rowK_any (B b:Nat) (l:List UInt8) (A:Option Addr) (c:Nat) (d:Array (AK)) (w:World) (h:Wrt B b l w) (hr:RdK encK 6 w.heap.size w A d) (hm:∀ x ∈ d.toList,may6 x.kind∧may6 x.frm∧may6 x.bal∧may6 x.t∧may6 x.abal∧may6 x.ph) (hs:d.size≤1000) (hl:l.length≤800000000) (hB:B≤w.heap.size) :
 Calls Tryz.prog 65 #[.pointer (some ⟨b,0,none⟩),.slice A d.size c,.func (.func 66) #[] #[]] w fun e w'=>WQ B b (l ++ rowB (ackM d).flatten) w e w':=by
 obtain ⟨i0,hi0,hz0,hz1,hz2⟩:=info_parts qfg
 have HR:=hI hr
 have HM:=hI hm
 have HW:=hI h
 clear hr hm h
 go_enter Tryz.func65,Tryz.ntmps65
 go_wp2
 go_loopw [6,11] (fun v i wr=>∃ (k:Nat) (xs:List Int),i=.int .i64 k∧k≤d.size∧Hid (xs=(d.toList.take k).flatMap celK)∧wr.ownsRow w.heap.size 3 1 v xs.length (xs.map (Value.int .i64))∧Hid (Below w.heap.size w wr)) (fun _ i _=>d.size - (intOf i).toNat)
 case atStart=>exact ⟨0,[],rfl,Nat.zero_le _,hI (by simp),World.ownsRow_nil _ _ _ _,hI (Below.refl _ _)⟩
 case round =>
  obtain ⟨k,xs,rfl,hk,HX,hown,HB⟩:=hrel
  by_cases hlt:k < d.size
  ·have kz:(k:Int) < (d.size:Int):=by omega
   have HS:Hid ((d.toList.take (k + 1)).flatMap celK=xs ++ celK d[k]!):=by show _=_;rw [qbi _ _ hlt,←HX.out]
   have hxl:xs.length≤6000:=by rw [HX.out,qln d k hk];omega
   obtain ⟨b2,off,rfl,hbl,f⟩:=(HR.out.below HB.out).at_ (i:=k) (by omega)
   obtain ⟨x,hx⟩:∃ x,d[k]! = x:=⟨_,rfl⟩
   rw [hx] at f HS
   have e0:=f 0 (by omega)
   have e1:=f 1 (by omega)
   have e2:=f 2 (by omega)
   have e3:=f 3 (by omega)
   have e4:=f 4 (by omega)
   have e5:=f 5 (by omega)
   clear hx f
   simp only [Nat.add_zero,encK,List.getElem!_cons_zero,List.getElem!_cons_succ] at e0 e1 e2 e3 e4 e5
   have HC:=hI (fun W=>ofK_any x W)
   simp only [encK] at HC
   have HOW:=hI hown
   clear hown
   go_wp2_with (first
    | (go_at_call 66;refine (HC.out _).mono ?_;rintro _ w2 ⟨g,rfl,hg,hgl,hb⟩;have HB2:=hI (qac (qad HB.out _) hb);have hown2:=qhi HOW.out (qac (bel1 wr _) hb);have HG:=hI hg;clear hb hg)
    | (at_builtin;refine wpList_append_own _ rfl _ _ 26 rfl w.heap.size 3 i0 (.int .i64 0) 1 8 Tryz.underlying26 hi0 hz0 hz1 hz2 rfl (by decide) _ _ _ rfl hown2 ⟨g,0,none⟩ 6 6 ((celK x).map (Value.int .i64)) rfl (by simp [qiw]) (qiu HG.out) (by intro u hu;obtain ⟨y,_,rfl⟩:=List.mem_map.1 hu;rfl) (by unfold maxLen;omega) (by omega) HB2.out.size ?_;intro v' w3 hown3 hgrow _))
   go_roundw
   case rel=>exact ⟨k + 1,xs ++ celK x,by go_num,by omega,hI HS.out.symm,by simpa [qiw] using hown3,hI (HB2.out.grown hgrow HB2.out.size (qgz hown2))⟩
   case measure=>simp [intOf];omega
  ·have hlt':decide ((k:Int) < (d.size:Int))=false:=decide_eq_false (by omega)
   have hkd:k=d.size:=by omega
   have hxs:xs=d.toList.flatMap celK:=by rw [HX.out,hkd,List.take_of_length_le (by simp)]
   have hsz:=qln d k hk
   rw [←HX.out] at hsz
   obtain ⟨A2,c2,rfl,hrd⟩:=qdm hown
   have HWR:=hI (qkt B b l A2 c2 xs.toArray wr (HW.out.below HB.out) hrd (qhz (by rw [hxs];exact qvg HM.out)) (by simp;omega) (by omega) (Nat.le_trans hB HB.out.size))
   have HXS:=hI hxs
   simp only [List.size_toArray] at HWR
   clear hxs hrd hown hsz HX
   go_wp2_with fail
   refine HWR.out.mono ?_
   rintro _ w5 ⟨rfl,h5,hb5,hk5⟩
   rw [HXS.out,qvf] at h5
   have H5:=hI h5
   have HB5:=hI hb5
   have HK5:=hI hk5
   clear h5 hb5 hk5
   go_wp2
   go_end0
   exact ⟨rfl,H5.out,(HB.out.mono hB).trans HB5.out,(KeepT.of_below HB.out).trans HK5.out⟩
end Go.Proofs.YtnmojicfmcbgmaaGreatDoor
