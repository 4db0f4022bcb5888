/- Texts that the law leans on. -/
import Derived.Deep.RegionLaw
import Derived.Deep.DrawnRows
import Derived.Maps.AppendAt
import Derived.Test.YtjkecckndfcbjaaGreatDoorPRdr
import Derived.Test.YtjkecckndfcbjaaGreatDoorPMsgF
import Derived.Test.YtjkecckndfcbjaaGreatDoorPErrD
namespace Go.Proofs.YtjkecckndfcbjaaGreatDoor
open Go.RowKit Go.Sort Nb
attribute [local go_sem ↓] Go.wp_at_zero Go.wp_at_succ
theorem qhw {P:Program} {w:World} {ops:Array Oper} {o:Oper} {a:Act} {K:Act→World→Prop} {Q:Exit→Act→World→Prop} {E:Prop} (hgd:o.guard=none) (s x:Operand) (t:TypeId)
 (ho:o.op=.call { callee:=.builtin .append,args:=#[s,x],argTypes:=#[t,t] })
 (base:Nat) (e:TypeId) (i:TypeInfo) (z:Value) (size bytes:Nat) (ht:P.underlying t=some (.slice e)) (hi:P.info? e=some i) (hz:i.zero=some z)
 (hsize:i.size=size) (hby:i.bytes=bytes) (hzs:z.cells.size=size) (hsz:0 < size)
 (v:Value) (n:Nat) (xs:List Value) (hs:a.eval s=v) (hown:w.ownsRow base e size v n xs)
 (ad:Addr) (m c:Nat) (news:List Value) (hx:a.eval x=.slice (some ad) m c) (hl:news.length=m * size) (hnews:∀ j u,news[j]?=some u→w.cell? (ad.add j)=some u) (h1:∀ u ∈ news,u.oneCell'=true)
 (h63:n + m≤maxLen) (hbytes:(n + m) * bytes≤140737488355328) (hB:base≤w.heap.size)
 (h:∀ v' w',w'.ownsRow base e size v' (n + m) (xs ++ news)→w.grownBy w' v.ownBlock→K (a.put o.dst v') w') :
 if Region.wanted o (yielded ops a.tmps)=true then Oper.wp P o a w K Q else E:=by
 have hw:Region.wanted o (yielded ops a.tmps)=true:=by simp [Region.wanted,hgd]
 rw [if_pos hw]
 obtain ⟨v',w',hr,h2,h3,_,_⟩:=run_append_own_at (P:=P) w base t o.type e i z size bytes ht hi hz hsize hby hzs hsz v n xs hown ad m c news hl hnews h1 h63 hbytes hB
 unfold Oper.wp execOp
 simp only [ho,resolve,invoke,builtin,Sem.run_bind,Sem.run_pure,Result.andThen_ok,List.map_toArray,List.map_cons,List.map_nil,hs,hx,hr]
 exact h v' w' h2 h3
theorem qux (w:World) (u v:Value) (e:TypeId):∀ (j:Nat) (x:Value),[u,v][j]?=some x→(w.alloc (.cells #[u,v] e)).drew.cell? (Addr.add ⟨w.heap.size,0,none⟩ j)=some x:=by
 intro j x hj
 match j,hj with
 | 0,hj=>simp at hj;subst hj;simp [Addr.add]
 | 1,hj=>simp at hj;subst hj;simp [Addr.add]
theorem two_one (x y:Int):∀ u ∈ [Value.int .i64 x,.int .i64 y],u.oneCell'=true:=by
 intro u hu
 simp at hu
 rcases hu with rfl | rfl <;> rfl
theorem quy {a b:Int} (h:a=b):Value.int .i64 a=.int .i64 b:=by rw [h]
theorem flat_snoc (d:List (Int×Int)) (x y:Int):(flatK encA 2 (d ++ [(x,y)]).toArray).toList=(flatK encA 2 d.toArray).toList ++ [.int .i64 x,.int .i64 y]:=by
 rw [qfx qvb,qfx qvb]
 simp [encA]
def mCs (k fr id t bal abal ph q:Nat) (pay:ByteArray) (lo hi:Int) (v u:Value) (dn:Int):Array Value:=#[.int .i64 (k:Int),.int .i64 (fr:Int),.int .i64 (id:Int),.int .i64 (t:Int),.int .i64 (bal:Int),.int .i64 (abal:Int),.int .i64 (ph:Int),.int .i64 (q:Int),.string pay,.int .i64 lo,.int .i64 hi,v,u,.int .i64 dn]
theorem qcs (k fr id t bal abal ph q:Nat) (pay:ByteArray) (lo hi:Int) (v u:Value) (dn:Int) (hv:∀ x,v≠.string x):qle (mCs k fr id t bal abal ph q pay lo hi v u dn):=by
 intro o op t x h1 h2
 unfold mCs at h1 h2
 match o,h1,h2 with
 | 0,h1,_=>simp at h1
 | 1,h1,_=>simp at h1
 | 2,h1,_=>simp at h1
 | 3,h1,_=>simp at h1
 | 4,h1,_=>simp at h1
 | 5,h1,_=>simp at h1
 | 6,h1,_=>simp at h1
 | 7,h1,_=>simp at h1
 | 8,_,h2=>simp at h2
 | 9,h1,_=>simp at h1
 | 10,h1,_=>simp at h1
 | 11,h1,_=>simp at h1;exact hv _ h1
 | 12,_,h2=>simp at h2
 | 13,h1,_=>simp at h1
 | o + 14,h1,_=>simp at h1
theorem RdK.grown {α:Type} [Inhabited α] {enc:α→List Value} {k:Nat} {w w':World} {A:Option Addr} {d:Array α} (h:RdK enc k w.heap.size w A d) {g:Nat} (hg:w.grownBy w' (some g)) (hne:∀ a,A=some a→a.block≠g):RdK enc k w'.heap.size w' A d:=fun h0=>by
 obtain ⟨b,off,e,hlt,hc⟩:=h h0
 exact ⟨b,off,e,Nat.lt_of_lt_of_le hlt hg.size,fun t ht=>hg.cell (hc t ht) (by intro e';injection e' with e';exact hne _ e e')⟩
theorem qjf {α:Type} [Inhabited α] {enc:α→List Value} {k:Nat} {w:World} {d:Array α} {base:Nat} {e:TypeId} {v:Value} (h:w.ownsRow base e k v d.size (flatK enc k d).toList) :
 ∃ A c,v=.slice A d.size c∧RdK enc k w.heap.size w A d∧(A=none→c=0)∧(∀ a,A=some a→base≤a.block):=by
 by_cases hn:v=.slice none 0 0
 ·subst hn
  obtain ⟨_,⟨_,h0⟩ | ⟨g,cap,cur,hv,_⟩⟩:=h
  ·exact ⟨none,0,by rw [h0],fun h=>absurd h0 (by omega),fun _=>rfl,fun _ h=>by cases h⟩
  ·cases hv
 ·obtain ⟨g,cap,hv,hb,hlt,hH⟩:=qic h hn
  exact ⟨_,cap,hv,RdK.of_holds hH hlt,(fun h=>by cases h),fun a h=>by injection h with h;subst h;exact hb⟩
theorem own_ne {w:World} {base:Nat} {e:TypeId} {k n:Nat} {v:Value} {xs:List Value} (h:w.ownsRow base e k v n xs):∀ x,v≠.string x:=by
 obtain ⟨_,⟨rfl,_⟩ | ⟨g,cap,cur,rfl,_⟩⟩:=h
 ·simp
 ·simp
theorem quz {w:World} {base:Nat} {e:TypeId} {k n:Nat} {v:Value} {xs:List Value} (h:w.ownsRow base e k v n xs):∃ A c,v=.slice A n c:=by
 obtain ⟨_,⟨rfl,h0⟩ | ⟨g,cap,cur,rfl,_⟩⟩:=h
 ·exact ⟨none,0,by rw [h0]⟩
 ·exact ⟨_,_,rfl⟩
theorem par_eq (n:Nat):(((n:Int) % 2) == 0)=decide (n % 2=0):=by rw [beqI];exact decide_eq_decide.2 (by omega)
theorem qjv {l:List Nat} {i:Nat} (h:i < l.length):(ints l)[i]! = ((l.getD i 0:Nat):Int):=by
 rw [getElem!_pos (ints l) i (by rw [qds];exact h)]
 simp [ints,h]
theorem ReadL.step {g:Nat} {cs:Value→Array Value} {l:List Nat} {W wr w5:World} {k i:Nat} {v:Value} {A5:Option Addr} {c5:Nat} {x0 x1:Int} {d:List (Int×Int)} {o:Obj} (hik:i=2 * k) (hlt:i + 1 < l.length) (hg:g < W.heap.size)
 (hgr:W.grownBy wr (some g)) (hown:wr.ownsRow W.heap.size 265 2 v d.toArray.size (flatK encA 2 d.toArray).toList) (hw5:((wr.alloc o).drew).grownBy w5 v.ownBlock) (hm5:w5.heap[g]?=some (.cells (cs v) 247 (0,0)))
 (hcs:∀ u,(cs v).setIfInBounds 11 u=cs u) (ho5:w5.ownsRow W.heap.size 265 2 (.slice A5 (d.toArray.size + 1) c5) (d.toArray.size + 1) ((flatK encA 2 d.toArray).toList ++ [.int .i64 x0,.int .i64 x1])) (hd:unfl (l.take (i + 2))=d ++ [(x0,x1)]) :
 ReadL g cs l W (.int .i64 ((i:Int) + 1 + 2)) (w5.setCell ⟨g,11,none⟩ (.slice A5 (d.length + 1) c5)):=by
 have hz:d.toArray.size=d.length:=by simp
 have hgs:=qag (World.grownBy.refl w5 (some g)) (p:=⟨g,11,none⟩) rfl (.slice A5 (d.length + 1) c5)
 refine ⟨k + 1,i + 2,.slice A5 (d.length + 1) c5,quy (by omega),by omega,by omega,?_,?_,?_⟩
 ·rw [qae hm5,hcs]
 ·have h2:=ho5.kept hgs (by
   rcases ho:Value.ownBlock (.slice A5 (d.toArray.size + 1) c5) with _ | t
   ·exact Or.inl rfl
   ·refine Or.inr ?_
    intro e
    injection e with e
    have:=(ho5.lt t ho).1
    omega)
  rw [hd,flat_snoc]
  simp only [List.size_toArray,List.length_append,List.length_cons,List.length_nil] at h2 ⊢
  exact h2
 ·have h1:W.grownBy ((wr.alloc o).drew) (some g):=qav hgr (qbr (((Below.refl _ _).alloc (Nat.le_refl _) o).drew) _)
  have h2:W.grownBy w5 (some g):=qmp h1 hw5 (fun t ht=>(hown.lt t ht).1)
  exact qag h2 rfl _
set_option maxRecDepth 100000 in
set_option maxHeartbeats 8000000 in
theorem read_any (b:Nat) (s:ByteArray) (w:World) (h:Rdr b s ⟨0,0⟩ w) (hg:Glob w) (hs:s.size≤1000000) :
 Calls Tryz.prog 155 #[.pointer (some ⟨b,0,none⟩)] w fun e w'=>ReadP b s w e w':=by
 rcases hR1:numR s.data.toList 2000000 ⟨0,0⟩ with ⟨r1,n1⟩
 rcases hR2:numR s.data.toList 2000000 r1 with ⟨r2,n2⟩
 rcases hR3:numR s.data.toList 2000000 r2 with ⟨r3,n3⟩
 rcases hR4:numR s.data.toList 2000000 r3 with ⟨r4,n4⟩
 rcases hR5:numR s.data.toList 2000000 r4 with ⟨r5,n5⟩
 rcases hR6:numR s.data.toList 2000000 r5 with ⟨r6,n6⟩
 rcases hR7:numR s.data.toList 2000000 r6 with ⟨r7,n7⟩
 rcases hR8:numR s.data.toList 2000000 r7 with ⟨r8,n8⟩
 rcases hT:qcb s.data.toList 300 r8 with ⟨r9,pay⟩
 rcases hR9:numR s.data.toList 2000000 r9 with ⟨r10,n9⟩
 rcases hR10:numR s.data.toList 2000000 r10 with ⟨r11,n10⟩
 rcases hR11:numR s.data.toList 2000000 r11 with ⟨r12,n11⟩
 rcases hL:rowR s.data.toList 400 r12 with ⟨r13,l⟩
 rcases hM:rowR s.data.toList 9 r13 with ⟨r14,mk⟩
 have hraw:qbb s.data.toList=⟨endR s.data.toList r14,[n1,n2,n3,n4,n5,n6,n7,n8],pay,[n9,n10,n11],l,mk⟩:=by
  have e8:R8 s.data.toList=(r8,[n1,n2,n3,n4,n5,n6,n7,n8]):=by unfold R8;simp [qcj,hR1,hR2,hR3,hR4,hR5,hR6,hR7,hR8]
  have eT:RT s.data.toList=(r9,pay):=by unfold RT;rw [e8];exact hT
  have e3:R3 s.data.toList=(r12,[n9,n10,n11]):=by unfold R3;rw [eT];simp [qcj,hR9,hR10,hR11]
  have eL:RL s.data.toList=(r13,l):=by unfold RL;rw [e3];exact hL
  have eM:RM s.data.toList=(r14,mk):=by unfold RM;rw [eL];exact hM
  unfold qbb
  rw [e8,eT,e3,eL,eM]
 have hll:l.length≤400:=by have:=qjt s.data.toList 400 r12;rw [hL] at this;exact this
 have hlm:mk.length≤9:=by have:=qjt s.data.toList 9 r13;rw [hM] at this;exact this
 have hlp:pay.length≤300:=by have:=qht s.data.toList 300 r8;rw [hT] at this;exact this
 have hbl:=h.lt
 have hgl:0 < w.heap.size:=qan hg
 have HP:Hid (∀ e w',(∃ aA aC mA mC,e=.returned (.tuple #[.agg #[.int .i64 (n1:Int),.int .i64 (n2:Int),.int .i64 (n3:Int),.int .i64 (n4:Int),.int .i64 (n5:Int),.int .i64 (n6:Int),.int .i64 (n7:Int),.int .i64 (n8:Int),.string ⟨pay.toArray⟩,.int .i64 (n9:Int),.int .i64 (n10:Int),.slice aA (unfl l).toArray.size aC,.slice mA mk.length mC,.int .i64 (n11:Int)],.bool (decide (l.length % 2=0))]) ∧
  RdK encA 2 w'.heap.size w' aA (unfl l).toArray∧RdI w'.heap.size w' mA (ints mk)∧RPost b s (endR s.data.toList r14) w w'∧(∀ a,aA=some a→w.heap.size≤a.block)∧(∀ a,mA=some a→w.heap.size≤a.block))→ReadP b s w e w'):=by
  rintro e w' ⟨aA,aC,mA,mC,he,ra,rm,hp,h1,h2⟩
  refine ⟨aA,aC,mA,mC,?_,?_,?_,h1,h2⟩
  ·rw [he,hraw]
   simp [msgV,pmOf,qds]
  ·rw [hraw]
   refine ⟨ra,rm,?_,?_,?_⟩
   ·show (unfl l).toArray.size≤_;rw [List.size_toArray,qhu];omega
   ·show (ints mk).size≤_;rw [qds];omega
   ·show (ByteArray.mk pay.toArray).size≤_;simp [ByteArray.size];omega
  ·rw [hraw];exact hp
 have HN:=hI (fun (r r':RS) (n:Nat) (W:World) (hst:RSt w.heap.size b s r W) (hR:numR s.data.toList 2000000 r=(r',n))=>num1_any w.heap.size b s r r' n W hst hs hR)
 have HTX:Hid (∀ W,RSt w.heap.size b s r8 W→Calls Tryz.prog 98 #[.pointer (some ⟨b,0,none⟩),.int .i64 300] W fun e w'=>e=.returned (.string ⟨pay.toArray⟩)∧RPost b s r9 W w'):=by
  intro W hst
  have:=qld b s r8 300 W hst.rd hst.gl hs
  rw [hT] at this
  exact this
 have HRL:Hid (∀ W,RSt w.heap.size b s r12 W→Calls Tryz.prog 163 #[.pointer (some ⟨b,0,none⟩),.int .i64 400] W fun e w'=>RRowP b s (r13,l) W e w'):=by
  intro W hst
  have:=qvi b s r12 400 W hst.rd hst.gl hs (by omega)
  rw [hL] at this
  exact this
 have HRM:Hid (∀ W,RSt w.heap.size b s r13 W→Calls Tryz.prog 163 #[.pointer (some ⟨b,0,none⟩),.int .i64 9] W fun e w'=>RRowP b s (r14,mk) W e w'):=by
  intro W hst
  have:=qvi b s r13 9 W hst.rd hst.gl hs (by omega)
  rw [hM] at this
  exact this
 have HEN:=hI (fun W (hst:RSt w.heap.size b s r14 W)=>qvj b s r14 W hst.rd hst.gl)
 have H0:=hI h
 have HG:=hI hg
 have HR1:=hI hR1
 have HR2:=hI hR2
 have HR3:=hI hR3
 have HR4:=hI hR4
 have HR5:=hI hR5
 have HR6:=hI hR6
 have HR7:=hI hR7
 have HR8:=hI hR8
 have HR9:=hI hR9
 have HR10:=hI hR10
 have HR11:=hI hR11
 clear h hg hR1 hR2 hR3 hR4 hR5 hR6 hR7 hR8 hR9 hR10 hR11 hT hL hM hraw hs
 have hmf:∀ (fn:Fn) (first cap:Array Value) (w:World),(Instr.makeFunc fn first cap).run Tryz.prog w=.ok (.func fn first cap) w:=fun _ _ _ _=>rfl
 go_enter Tryz.func155,Tryz.ntmps155
 go_wp2_with fail
 refine (HN.out ⟨0,0⟩ r1 n1 _ (RSt.new H0.out HG.out _ _) HR1.out).mono ?_
 rintro e w1 ⟨rfl,st1,hg1⟩
 have HS1:=hI st1
 have HG1:=hI hg1
 clear st1 hg1
 go_wp2_with fail
 refine (HN.out r1 r2 n2 _ HS1.out HR2.out).mono ?_
 rintro e w2 ⟨rfl,st2,hg2⟩
 have HS2:=hI st2
 have HG2:=hI (qav HG1.out hg2)
 clear st2 hg2
 go_wp2_with fail
 refine (HN.out r2 r3 n3 _ HS2.out HR3.out).mono ?_
 rintro e w3 ⟨rfl,st3,hg3⟩
 have HS3:=hI st3
 have HG3:=hI (qav HG2.out hg3)
 clear st3 hg3
 go_wp2_with fail
 refine (HN.out r3 r4 n4 _ HS3.out HR4.out).mono ?_
 rintro e w4 ⟨rfl,st4,hg4⟩
 have HS4:=hI st4
 have HG4:=hI (qav HG3.out hg4)
 clear st4 hg4
 go_wp2_with fail
 refine (HN.out r4 r5 n5 _ HS4.out HR5.out).mono ?_
 rintro e w5 ⟨rfl,st5,hg5⟩
 have HS5:=hI st5
 have HG5:=hI (qav HG4.out hg5)
 clear st5 hg5
 go_wp2_with fail
 refine (HN.out r5 r6 n6 _ HS5.out HR6.out).mono ?_
 rintro e w6 ⟨rfl,st6,hg6⟩
 have HS6:=hI st6
 have HG6:=hI (qav HG5.out hg6)
 clear st6 hg6
 go_wp2_with fail
 refine (HN.out r6 r7 n7 _ HS6.out HR7.out).mono ?_
 rintro e w7 ⟨rfl,st7,hg7⟩
 have HS7:=hI st7
 have HG7:=hI (qav HG6.out hg7)
 clear st7 hg7
 go_wp2_with fail
 refine (HN.out r7 r8 n8 _ HS7.out HR8.out).mono ?_
 rintro e w8 ⟨rfl,st8,hg8⟩
 have HS8:=hI st8
 have HG8:=hI (qav HG7.out hg8)
 clear st8 hg8
 have b8:=HS8.out.box
 have hw1:w.heap.size + 2≤w8.heap.size:=by have:=HG8.out.size;simp at this;omega
 have z8:w.heap.size < w8.heap.size:=qan b8
 have zb8:b < w8.heap.size:=HS8.out.rd.lt
 go_wp2_with fail
 refine (HTX.out _ (HS8.out.below (bel1 w8 _))).mono ?_
 rintro e w9 ⟨rfl,hP9⟩
 have HM9:Hid (w9.heap[w8.heap.size]?=some (.cells (mCs n1 n2 n3 n4 n5 n6 n7 n8 ⟨#[]⟩ 0 0 (.slice none 0 0) (.slice none 0 0) 0) 247 (0,0))):=qap (qcp w8 _) hP9.2 (by omega)
 have HS9:=hI (((HS8.out.below (bel1 w8 _)).rpost hP9).grown HM9.out (qcs _ _ _ _ _ _ _ _ _ _ _ _ _ _ (by simp)) (qag (World.grownBy.refl w9 (some w8.heap.size)) (p:=⟨w8.heap.size,8,none⟩) rfl (.string ⟨pay.toArray⟩)) zb8 z8 (by omega))
 have HG9:=hI (qbd (qav (qav HG8.out (qbr (bel1 w8 _) _)) hP9.2) HG8.out.size 8 (.string ⟨pay.toArray⟩))
 have c9:w9.cell? ⟨w8.heap.size,8,none⟩=some (.string ⟨#[]⟩):=by rw [qac HM9.out];rfl
 have f9:w9.frozen? ⟨w8.heap.size,8,none⟩=false:=Lib.frozen_of_heap HM9.out 8
 have z9:w8.heap.size < w9.heap.size:=qaa HM9.out
 clear hP9 b8
 go_wp2_with fail
 refine (HN.out r9 r10 n9 _ HS9.out HR9.out).mono ?_
 rintro e w10 ⟨rfl,st10,hg10⟩
 have HS10:=hI st10
 have HG10:=hI (qav HG9.out hg10)
 have HM10:Hid (w10.heap[w8.heap.size]?=some (.cells (mCs n1 n2 n3 n4 n5 n6 n7 n8 ⟨pay.toArray⟩ 0 0 (.slice none 0 0) (.slice none 0 0) 0) 247 (0,0))):=qap (qae HM9.out 8 (.string ⟨pay.toArray⟩)) hg10 (by omega)
 clear st10 hg10 c9 f9 z9
 go_wp2_with fail
 refine (HN.out r10 r11 n10 _ HS10.out HR10.out).mono ?_
 rintro e w11 ⟨rfl,st11,hg11⟩
 have HS11:=hI st11
 have HG11:=hI (qav HG10.out hg11)
 have HM11:=hI (qap HM10.out hg11 (by omega))
 clear st11 hg11
 go_wp2_with fail
 refine (HN.out r11 r12 n11 _ HS11.out HR11.out).mono ?_
 rintro e w12 ⟨rfl,st12,hg12⟩
 have HM12:=hI (qap HM11.out hg12 (by omega))
 have b12:=st12.box
 have HS12:=hI (st12.grown HM12.out (qcs _ _ _ _ _ _ _ _ _ _ _ _ _ _ (by simp)) (qag (qag (qag (World.grownBy.refl w12 (some w8.heap.size)) (p:=⟨w8.heap.size,9,none⟩) rfl (.int .i64 (n9:Int))) (p:=⟨w8.heap.size,10,none⟩) rfl (.int .i64 (n10:Int))) (p:=⟨w8.heap.size,13,none⟩) rfl (.int .i64 (n11:Int))) zb8 z8 (by omega))
 have HG12:=hI (qbd (qbd (qbd (qav HG11.out hg12) HG8.out.size 9 (.int .i64 (n9:Int))) HG8.out.size 10 (.int .i64 (n10:Int))) HG8.out.size 13 (.int .i64 (n11:Int)))
 have c12:w12.cell? ⟨w8.heap.size,9,none⟩=some (.int .i64 0):=by rw [qac HM12.out];rfl
 have f12:w12.frozen? ⟨w8.heap.size,9,none⟩=false:=Lib.frozen_of_heap HM12.out 9
 have c12':w12.cell? ⟨w8.heap.size,10,none⟩=some (.int .i64 0):=by rw [qac HM12.out];rfl
 have f12':w12.frozen? ⟨w8.heap.size,10,none⟩=false:=Lib.frozen_of_heap HM12.out 10
 have c12'':w12.cell? ⟨w8.heap.size,13,none⟩=some (.int .i64 0):=by rw [qac HM12.out];rfl
 have f12'':w12.frozen? ⟨w8.heap.size,13,none⟩=false:=Lib.frozen_of_heap HM12.out 13
 have z12:w8.heap.size < w12.heap.size:=qaa HM12.out
 clear st12 hg12
 go_wp2_with fail
 refine (HRL.out _ HS12.out).mono ?_
 rintro e w13 ⟨A,cp,rfl,hrd,⟨hnil,-⟩,hblk,hP13⟩
 have HS13:=hI (HS12.out.rpost hP13)
 have HG13:=hI (qav HG12.out hP13.2)
 have HM13:Hid (w13.heap[w8.heap.size]?=some (.cells (mCs n1 n2 n3 n4 n5 n6 n7 n8 ⟨pay.toArray⟩ n9 n10 (.slice none 0 0) (.slice none 0 0) n11) 247 (0,0))):=qap (qae (qae (qae HM12.out 9 (.int .i64 (n9:Int))) 10 (.int .i64 (n10:Int))) 13 (.int .i64 (n11:Int))) hP13.2 (by omega)
 have b13:=HS13.out.box
 have hbk:∀ a,A=some a→w8.heap.size < a.block:=fun a ha=>by have:=hblk a ha;simp at this;omega
 have HRD13:=hI hrd
 have HBK:=hI hbk
 have z13:w8.heap.size < w13.heap.size:=qaa HM13.out
 clear hP13 hrd hnil hblk hbk c12 c12' c12'' f12 f12' f12'' z12 b12
 dsimp only
 go_wp2_with fail
 refine (HRM.out _ HS13.out).mono ?_
 rintro e w14 ⟨mA,mC,rfl,hrd,⟨hnil,-⟩,hblk,hP14⟩
 have HM14:=hI (qap HM13.out hP14.2 (by omega))
 have hgs:=qag (World.grownBy.refl w14 (some w8.heap.size)) (p:=⟨w8.heap.size,12,none⟩) rfl (.slice mA mk.length mC)
 have HS14:=hI ((HS13.out.rpost hP14).grown HM14.out (qcs _ _ _ _ _ _ _ _ _ _ _ _ _ _ (by simp)) hgs zb8 z8 (by omega))
 have HG14:=hI (qbd (qav HG13.out hP14.2) HG8.out.size 12 (.slice mA mk.length mC))
 have HRD14:=hI ((HRD13.out.grown hP14.2 (fun a ha=>by have:=HBK.out a ha;omega)).grown hgs (fun a ha=>by have:=HBK.out a ha;omega))
 have HBM:Hid (∀ a,mA=some a→w8.heap.size < a.block):=fun a ha=>by have:=hblk a ha;omega
 have HRM14:=hI (RdI.grown hrd hgs (fun a ha=>by have:=HBM.out a ha;omega))
 have b14:=(HS13.out.rpost hP14).box
 have c14:w14.cell? ⟨w8.heap.size,12,none⟩=some (.slice none 0 0):=by rw [qac HM14.out];rfl
 have f14:w14.frozen? ⟨w8.heap.size,12,none⟩=false:=Lib.frozen_of_heap HM14.out 12
 have z14:w8.heap.size < w14.heap.size:=qaa HM14.out
 clear hP14 hrd hnil hblk hgs b13 z13
 dsimp only
 go_wp2_with fail
 refine (HEN.out _ HS14.out).mono ?_
 rintro e w15 ⟨rfl,hP15⟩
 have HM15:Hid (w15.heap[w8.heap.size]?=some (.cells (mCs n1 n2 n3 n4 n5 n6 n7 n8 ⟨pay.toArray⟩ n9 n10 (.slice none 0 0) (.slice mA mk.length mC) n11) 247 (0,0))):=qap (qae HM14.out 12 (.slice mA mk.length mC)) hP15.2 (by omega)
 have HS15:=hI (HS14.out.rpost hP15)
 have HG15:=hI (qav HG14.out hP15.2)
 have HRD15:=hI (HRD14.out.grown hP15.2 (fun a ha=>by have:=HBK.out a ha;omega))
 have HRM15:=hI (HRM14.out.grown hP15.2 (fun a ha=>by have:=HBM.out a ha;omega))
 have z15:w8.heap.size < w15.heap.size:=qaa HM15.out
 obtain ⟨i0,hi0,hzz0,hzz1,hzz2⟩:=info_parts qvl
 clear hP15 b14 c14 f14 z14
 go_wp2
 go_loopw [7] (fun iv wr=>ReadL w8.heap.size (fun v=>mCs n1 n2 n3 n4 n5 n6 n7 n8 ⟨pay.toArray⟩ n9 n10 v (.slice mA mk.length mC) n11) l w15 iv wr) (fun i _=>l.length - (intOf i).toNat)
 case atStart=>exact ⟨0,0,.slice none 0 0,rfl,rfl,Nat.zero_le _,HM15.out,qec w15 _ _ encA 2,World.grownBy.refl _ _⟩
 case round =>
  obtain ⟨k,i,v,rfl,hik,hil,hmb,hown,hgr⟩:=hrel
  have HMB:=hI hmb
  have HGR:=hI hgr
  have HIK:=hI hik
  have hv:∀ x,v≠.string x:=own_ne hown
  have HV:=hI hv
  clear hmb hgr hik hv
  by_cases hlt:i + 1 < l.length
  ·have HRW:=hI (HRD15.out.grown HGR.out (fun a ha=>by have:=HBK.out a ha;omega))
   obtain ⟨b2,off,hA,hb2,e0⟩:=HRW.out.at_ (i:=i) (by rw [qds];omega)
   obtain ⟨b2',off',hA',hb2',e1⟩:=HRW.out.at_ (i:=i + 1) (by rw [qds];omega)
   subst hA
   injection hA' with hA'
   injection hA' with h1 h2
   subst h1 h2
   rw [qjv (by omega)] at e0
   rw [qjv (by omega)] at e1
   have HD:Hid (unfl (l.take (i + 2))=unfl (l.take i) ++ [(((l.getD i 0:Nat):Int),((l.getD (i + 1) 0:Nat):Int))]):=by
    have:=qkz l k (by have:=HIK.out;omega)
    rw [←HIK.out,show 2 * (k + 1)=i + 2 by have:=HIK.out;omega] at this
    exact this
   generalize l.getD i 0=x0 at e0 HD
   generalize l.getD (i + 1) 0=x1 at e1 HD
   have hul:(unfl (l.take i)).length≤200:=by rw [qhu,List.length_take];omega
   generalize unfl (l.take i)=d at hown HD hul
   have c11:wr.cell? ⟨w8.heap.size,11,none⟩=some v:=by rw [qac HMB.out];rfl
   have HO:=hI hown
   have zr:w8.heap.size < wr.heap.size:=qaa HMB.out
   have kz:((i:Int) + 1) < (l.length:Int):=by omega
   have k0:(0:Int)≤(i:Int):=by omega
   have k1:(0:Int)≤(i:Int) + 1:=by omega
   have kz0:(i:Int) < (l.length:Int):=by omega
   clear hown HRW
   have hw0:IntKind.i64.wrap (i:Int)=(i:Int):=IntWalk.i64_in _ (by omega)
   have t1:((i:Int) + 1).toNat=i + 1:=by omega
   have H63:d.toArray.size + 1≤maxLen:=by unfold maxLen;rw [List.size_toArray];omega
   have HBY:(d.toArray.size + 1) * 16≤140737488355328:=by rw [List.size_toArray];omega
   have HH63:=hI H63
   have HHBY:=hI HBY
   have HBS:Hid (w15.heap.size≤((wr.alloc (.cells #[.int .i64 (x0:Int),.int .i64 (x1:Int)] 265)).drew).heap.size):=by show _≤_;have:=HGR.out.size;simp;omega
   clear H63 HBY hul
   go_wp2_with fail
   go_region_law ((refine qhw (by rfl) (.tmp 52) (.tmp 63) 245 (by rfl) w15.heap.size 265 i0 (.agg #[.int .i64 0,.int .i64 0]) 2 16 Tryz.underlying245 hi0 hzz0 hzz1 hzz2 (by rfl) (by omega) v d.toArray.size (flatK encA 2 d.toArray).toList (by rfl) (HO.out.alloc (.cells #[.int .i64 (x0:Int),.int .i64 (x1:Int)] 265)).drew ⟨wr.heap.size,0,none⟩ 1 1 [.int .i64 (x0:Int),.int .i64 (x1:Int)] (by rfl) (by rfl) (qux wr _ _ _) (two_one _ _) HH63.out HHBY.out HBS.out ?_;intro v' w5 hown' hgrow;obtain ⟨A5,c5',rfl⟩:=quz hown';have HM5:Hid (w5.heap[w8.heap.size]?=some (.cells (mCs n1 n2 n3 n4 n5 n6 n7 n8 ⟨pay.toArray⟩ n9 n10 v (.slice mA mk.length mC) n11) 247 (0,0))):=(hgrow.block _ (by simp;omega) (by intro e;have:=(HO.out.lt _ e.symm).1;omega)).trans ((Below.heap_alloc wr _ _ zr).trans HMB.out);have HO5:=hI hown';have HW5:=hI hgrow;have c5:w5.cell? ⟨w8.heap.size,11,none⟩=some v:=(by rw [qac HM5.out];rfl);have f5:w5.frozen? ⟨w8.heap.size,11,none⟩=false:=Lib.frozen_of_heap HM5.out 11;clear hown' hgrow))
   all_goals clear hw0 t1
   all_goals go_wp2
   all_goals
    go_roundw
    case rel=>exact ReadL.step HIK.out hlt z15 HGR.out HO.out HW5.out HM5.out (fun _=>rfl) HO5.out HD.out
    case measure=>simp [intOf];omega
  ·have hi2:i=2 * (l.length / 2):=by have:=HIK.out;omega
   rw [hi2,qnx] at hown
   obtain ⟨aA,aC,rfl,hra,-,hbA⟩:=qjf hown
   have HRES0:=hI (qap (qhs w (.cells #[.pointer (some ⟨b,0,none⟩)] 171) (.cells (mCs 0 0 0 0 0 0 0 0 ⟨#[]⟩ 0 0 (.slice none 0 0) (.slice none 0 0) 0) 247)) HG15.out (by omega))
   have HRES:=hI (qap HRES0.out HGR.out (by omega))
   obtain ⟨p0,q0,p1,q1,p2,q2,p3,q3,p4,q4,p5,q5,p6,q6,p7,q7,p8,q8,p9,q9,p10,q10,p11,q11,p12,q12,p13,q13⟩:=qbp HMB.out
   obtain ⟨u0,x0,u1,x1,u2,x2,u3,x3,u4,x4,u5,x5,u6,x6,u7,x7,u8,x8,u9,x9,u10,x10,u11,x11,u12,x12,u13,x13⟩:=qbp HRES.out
   have hge:¬ ((i:Int) + 1 < (l.length:Int)):=by omega
   have hpar:(((l.length:Int) % 2) == 0)=decide (l.length % 2=0):=par_eq _
   generalize decide (l.length % 2=0)=par at hpar HP
   have HRA:=hI hra
   have HBA:=hI hbA
   clear hown hra hbA hi2 hlt hil
   have HALL:=hI (And.intro (qia HRES.out (.int .i64 (n1:Int)) (.int .i64 (n2:Int)) (.int .i64 (n3:Int)) (.int .i64 (n4:Int)) (.int .i64 (n5:Int)) (.int .i64 (n6:Int)) (.int .i64 (n7:Int)) (.int .i64 (n8:Int)) (.string ⟨pay.toArray⟩) (.int .i64 (n9:Int)) (.int .i64 (n10:Int)) (.slice aA (unfl l).length aC) (.slice mA mk.length mC) (.int .i64 (n11:Int))) (And.intro (qib wr (w.heap.size + 1) (.int .i64 (n1:Int)) (.int .i64 (n2:Int)) (.int .i64 (n3:Int)) (.int .i64 (n4:Int)) (.int .i64 (n5:Int)) (.int .i64 (n6:Int)) (.int .i64 (n7:Int)) (.int .i64 (n8:Int)) (.string ⟨pay.toArray⟩) (.int .i64 (n9:Int)) (.int .i64 (n10:Int)) (.slice aA (unfl l).length aC) (.slice mA mk.length mC) (.int .i64 (n11:Int))) (grown14 (qmp (qav (qbr (qab (bel1 w _) _) _) HG15.out) HGR.out (fun t ht=>by injection ht with ht;omega)) (by omega:w.heap.size≤w.heap.size + 1) (.int .i64 (n1:Int)) (.int .i64 (n2:Int)) (.int .i64 (n3:Int)) (.int .i64 (n4:Int)) (.int .i64 (n5:Int)) (.int .i64 (n6:Int)) (.int .i64 (n7:Int)) (.int .i64 (n8:Int)) (.string ⟨pay.toArray⟩) (.int .i64 (n9:Int)) (.int .i64 (n10:Int)) (.slice aA (unfl l).length aC) (.slice mA mk.length mC) (.int .i64 (n11:Int)))))
   go_wp2
   generalize ((((((((((((((wr.setCell ⟨w.heap.size + 1,0,none⟩ (.int .i64 (n1:Int))).setCell ⟨w.heap.size + 1,1,none⟩ (.int .i64 (n2:Int))).setCell ⟨w.heap.size + 1,2,none⟩ (.int .i64 (n3:Int))).setCell ⟨w.heap.size + 1,3,none⟩ (.int .i64 (n4:Int))).setCell ⟨w.heap.size + 1,4,none⟩ (.int .i64 (n5:Int))).setCell ⟨w.heap.size + 1,5,none⟩ (.int .i64 (n6:Int))).setCell ⟨w.heap.size + 1,6,none⟩ (.int .i64 (n7:Int))).setCell ⟨w.heap.size + 1,7,none⟩ (.int .i64 (n8:Int))).setCell ⟨w.heap.size + 1,8,none⟩ (.string ⟨pay.toArray⟩)).setCell ⟨w.heap.size + 1,9,none⟩ (.int .i64 (n9:Int))).setCell ⟨w.heap.size + 1,10,none⟩ (.int .i64 (n10:Int))).setCell ⟨w.heap.size + 1,11,none⟩ (.slice aA (unfl l).length aC)).setCell ⟨w.heap.size + 1,12,none⟩ (.slice mA mk.length mC)).setCell ⟨w.heap.size + 1,13,none⟩ (.int .i64 (n11:Int)))=wf at HALL ⊢
   obtain ⟨hF,hSM,hFin⟩:=HALL.out
   obtain ⟨y0,-,y1,-,y2,-,y3,-,y4,-,y5,-,y6,-,y7,-,y8,-,y9,-,y10,-,y11,-,y12,-,y13,-⟩:=qbp hF
   refine bodyPost_ret (v:=.tuple #[.agg #[.int .i64 (n1:Int),.int .i64 (n2:Int),.int .i64 (n3:Int),.int .i64 (n4:Int),.int .i64 (n5:Int),.int .i64 (n6:Int),.int .i64 (n7:Int),.int .i64 (n8:Int),.string ⟨pay.toArray⟩,.int .i64 (n9:Int),.int .i64 (n10:Int),.slice aA (unfl l).length aC,.slice mA mk.length mC,.int .i64 (n11:Int)],.bool par]) (by simp [results,Tryz.results155,go_sem,y0,y1,y2,y3,y4,y5,y6,y7,y8,y9,y10,y11,y12,y13]) rfl ?_
   refine HP.out _ _ ⟨aA,aC,mA,mC,by simp,?_,?_,⟨?_,hFin⟩,(fun a ha=>by have:=HBA.out a ha;omega),(fun a ha=>by have:=HBM.out a ha;omega)⟩
   ·exact HRA.out.grown hSM (fun a ha=>by have:=HBA.out a ha;omega)
   ·exact (HRM15.out.grown HGR.out (fun a ha=>by have:=HBM.out a ha;omega)).grown hSM (fun a ha=>by have:=HBM.out a ha;omega)
   ·exact (HS15.out.rd.grown HM15.out (qcs _ _ _ _ _ _ _ _ _ _ _ _ _ _ (by simp)) HGR.out (by omega)).grown HRES.out (qcs _ _ _ _ _ _ _ _ _ _ _ _ _ _ (by simp)) hSM (by omega)
end Go.Proofs.YtjkecckndfcbjaaGreatDoor
namespace Go.Proofs.YtjkecckndfcbjaaGreatDoor
open Go.RowKit Go.Sort Nb
def zM:PM:={ k:=0,fr:=0,id:=0,t:=0,bal:=0,abal:=0,ph:=0,q:=0,pay:=⟨#[]⟩,lo:=0,hi:=0,aA:=none,aC:=0,ats:=#[],mA:=none,mC:=0,mks:=#[],dn:=0 }
theorem qxd (w:World):RdM w zM:=⟨fun h=>absurd h (by decide),RdI.none_,by decide,by decide,by decide⟩
def qgi:ByteArray:=⟨#[116,97,107,101]⟩
def TakeP (s:ByteArray) (e:Ending) (w':World):Prop:=∃ m v ops,e=.returned (.tuple #[msgV m,v])∧RdM w' m∧ErrV w' ops (qda s.data.toList:Int) v∧ops.length≤10∧(qda s.data.toList≠0→qgi ∈ ops∧m=zM)∧(qda s.data.toList=0→∃ aA aC mA mC,m=pmOf (qbb s.data.toList) aA aC mA mC)
def TakePB (B:Nat) (s:ByteArray) (e:Ending) (w':World):Prop:=∃ m v ops,e=.returned (.tuple #[msgV m,v])∧RdM w' m∧ErrV w' ops (qda s.data.toList:Int) v∧ops.length≤10∧(qda s.data.toList≠0→qgi ∈ ops∧m=zM)∧(qda s.data.toList=0→∃ aA aC mA mC,m=pmOf (qbb s.data.toList) aA aC mA mC)∧(∀ a,m.aA=some a→B≤a.block)∧(∀ a,m.mA=some a→B≤a.block)
theorem TakePB.take {B:Nat} {s:ByteArray} {e:Ending} {w':World} (h:TakePB B s e w'):TakeP s e w':=by
 obtain ⟨m,v,ops,h1,h2,h3,h4,h5,h6,-,-⟩:=h
 exact ⟨m,v,ops,h1,h2,h3,h4,h5,h6⟩
theorem qmm (B:Nat):(∀ a,zM.aA=some a→B≤a.block)∧(∀ a,zM.mA=some a→B≤a.block):=⟨fun a h=>(by cases h),fun a h=>(by cases h)⟩
theorem takeC_e {l:List UInt8} (h:(qbb l).r.e≠0):qda l=(qbb l).r.e:=by unfold qda;rw [if_pos h]
theorem qqm {l:List UInt8} (h:(qbb l).r.e=0) (h2:(qbb l).l.length % 2≠0):qda l=5:=by unfold qda;rw [if_neg (by omega),if_pos h2]
theorem qlb {l:List UInt8} (h:(qbb l).r.e=0) (h2:(qbb l).l.length % 2=0) (aA:Option Addr) (aC:Nat) (mA:Option Addr) (mC:Nat):(qda l:Int)=chkM (pmOf (qbb l) aA aC mA mC):=by
 unfold qda
 rw [if_neg (by omega),if_neg (by omega),chkM_at (qbb l) aA aC mA mC]
 rcases chk_3 (pmOf (qbb l) none 0 none 0) with h | h | h <;> rw [h] <;> rfl
theorem Rdr.new2 (s:ByteArray) (w:World) (o:Obj):Rdr (w.heap.size + 1) s ⟨0,0⟩ ((w.alloc o).alloc (.cells #[.string s,.int .i64 0,.nilIface,.bool true] 225)):=by
 have h:=Rdr.new s (w.alloc o)
 have e:(w.alloc o).heap.size=w.heap.size + 1:=by simp
 rw [e] at h
 exact h
set_option maxRecDepth 100000 in
set_option maxHeartbeats 1000000 in
theorem qxe (s:ByteArray) (w:World) (hg:Glob w) (hs:s.size≤1000000) :
 Calls Tryz.prog 148 #[.string s] w fun e w'=>TakePB w.heap.size s e w'∧Below w.heap.size w w':=by
 have HRN:=hI (fun W=>qvh s W)
 have HRD:=hI (fun (b:Nat) (W:World) (h:Rdr b s ⟨0,0⟩ W) (hg:Glob W)=>read_any b s W h hg hs)
 have HDN:=hI (fun (b:Nat) (r:RS) (W:World) (h:Rdr b s r W)=>qqv b s r W h)
 have HCK:=hI (fun (m:PM) (W:World) (h:RdM W m)=>Check_any m W h)
 have HG:=hI hg
 clear hg
 go_enter Tryz.func148,Tryz.ntmps148
 go_wp2_with fail
 refine (HRN.out _).mono ?_
 rintro e w1 ⟨rfl,rfl⟩
 go_wp2_with fail
 refine (HRD.out (w.heap.size + 1) _ (Rdr.new2 s w _) (HG.out.below (qab (bel1 w _) _))).mono ?_
 rintro e w2 ⟨aA,aC,mA,mC,rfl,hrm,hP,hnA,hnM⟩
 have HRM:=hI hrm
 have HPP:=hI hP
 have hz2:w.heap.size + 2≤w2.heap.size:=by have:=hP.2.size;simp at this;omega
 have HB2:Hid (Below w.heap.size w w2):=qaq (qab (bel1 w _) _) hP.2 (by omega)
 have HRES0:Hid (w2.heap[w.heap.size]?=some (.cells (mCs 0 0 0 0 0 0 0 0 ⟨#[]⟩ 0 0 (.slice none 0 0) (.slice none 0 0) 0) 247 (0,0))):=qap ((Below.heap_alloc _ _ _ (by simp)).trans (qcp w _)) hP.2 (by omega)
 have HTE:=hI (@takeC_e s.data.toList)
 have HTO:=hI (@qqm s.data.toList)
 have HTK:=hI (@qlb s.data.toList)
 obtain ⟨m,hm⟩:∃ m,m=pmOf (qbb s.data.toList) aA aC mA mC:=⟨_,rfl⟩
 have HTC:Hid ((qbb s.data.toList).r.e=0→(qbb s.data.toList).l.length % 2=0→(qda s.data.toList:Int)=chkM m):=by rw [hm];exact fun h1 h2=>qlb h1 h2 aA aC mA mC
 have HMM:Hid (∃ aA aC mA mC,m=pmOf (qbb s.data.toList) aA aC mA mC):=⟨aA,aC,mA,mC,hm⟩
 have HNA:Hid (∀ a,m.aA=some a→a.block≠w.heap.size):=fun a ha=>by rw [hm] at ha;have:=hnA a ha;simp at this;omega
 have HNM:Hid (∀ a,m.mA=some a→a.block≠w.heap.size):=fun a ha=>by rw [hm] at ha;have:=hnM a ha;simp at this;omega
 have HGA:Hid (∀ a,m.aA=some a→w.heap.size≤a.block):=fun a ha=>by rw [hm] at ha;have:=hnA a ha;simp at this;omega
 have HGM:Hid (∀ a,m.mA=some a→w.heap.size≤a.block):=fun a ha=>by rw [hm] at ha;have:=hnM a ha;simp at this;omega
 clear hnA hnM
 rw [←hm] at HRM ⊢
 have HRD2:=hI hP.1
 clear hrm hP hm HTK HRD HRN
 generalize hde:decide ((qbb s.data.toList).l.length % 2=0)=par
 have HDE:=hI hde
 clear hde
 unfold msgV
 go_wp2_with fail
 refine (HDN.out (w.heap.size + 1) (qbb s.data.toList).r _ (HRD2.out.below (bel1 w2 _))).mono ?_
 rintro e w3 ⟨ev,rfl,hfv,rfl⟩
 rcases hfv with ⟨he,rfl⟩ | ⟨he,op,ops,hol,hch⟩
 ·have HE0:=hI he
  clear he
  cases hpa:par
  ·have hne:(qbb s.data.toList).l.length % 2≠0:=by have:=HDE.out;rw [hpa] at this;simpa using this
   have HTV:=hI (HTO.out HE0.out hne)
   have HNW:=hI (fun W=>qee qgi 5 W (by omega))
   clear hne HDE hpa HTC
   go_wp2_with fail
   refine (HNW.out _).mono ?_
   rintro e w4 ⟨v,rfl,hch4,hb4⟩
   have HCH:=hI hch4
   have HB4:=hI (qad (qab HB2.out _) hb4)
   have HR4:=hI ((hb4.block _ (by simp;omega)).trans ((Below.heap_alloc _ _ _ (by omega)).trans HRES0.out))
   clear hch4 hb4
   have HALL:=hI (And.intro (qia HR4.out (.int .i64 0) (.int .i64 0) (.int .i64 0) (.int .i64 0) (.int .i64 0) (.int .i64 0) (.int .i64 0) (.int .i64 0) (.string ⟨#[]⟩) (.int .i64 0) (.int .i64 0) (.slice none 0 0) (.slice none 0 0) (.int .i64 0)) (And.intro (qib w4 w.heap.size (.int .i64 0) (.int .i64 0) (.int .i64 0) (.int .i64 0) (.int .i64 0) (.int .i64 0) (.int .i64 0) (.int .i64 0) (.string ⟨#[]⟩) (.int .i64 0) (.int .i64 0) (.slice none 0 0) (.slice none 0 0) (.int .i64 0)) (qqy HB4.out (Nat.le_refl _) (.int .i64 0) (.int .i64 0) (.int .i64 0) (.int .i64 0) (.int .i64 0) (.int .i64 0) (.int .i64 0) (.int .i64 0) (.string ⟨#[]⟩) (.int .i64 0) (.int .i64 0) (.slice none 0 0) (.slice none 0 0) (.int .i64 0))))
   obtain ⟨u0,x0,u1,x1,u2,x2,u3,x3,u4,x4,u5,x5,u6,x6,u7,x7,u8,x8,u9,x9,u10,x10,u11,x11,u12,x12,u13,x13⟩:=qbp HR4.out
   go_wp2
   generalize ((((((((((((((w4.setCell ⟨w.heap.size,0,none⟩ (.int .i64 0)).setCell ⟨w.heap.size,1,none⟩ (.int .i64 0)).setCell ⟨w.heap.size,2,none⟩ (.int .i64 0)).setCell ⟨w.heap.size,3,none⟩ (.int .i64 0)).setCell ⟨w.heap.size,4,none⟩ (.int .i64 0)).setCell ⟨w.heap.size,5,none⟩ (.int .i64 0)).setCell ⟨w.heap.size,6,none⟩ (.int .i64 0)).setCell ⟨w.heap.size,7,none⟩ (.int .i64 0)).setCell ⟨w.heap.size,8,none⟩ (.string ⟨#[]⟩)).setCell ⟨w.heap.size,9,none⟩ (.int .i64 0)).setCell ⟨w.heap.size,10,none⟩ (.int .i64 0)).setCell ⟨w.heap.size,11,none⟩ (.slice none 0 0)).setCell ⟨w.heap.size,12,none⟩ (.slice none 0 0)).setCell ⟨w.heap.size,13,none⟩ (.int .i64 0))=wf at HALL ⊢
   obtain ⟨hF,hSM,hFin⟩:=HALL.out
   obtain ⟨y0,-,y1,-,y2,-,y3,-,y4,-,y5,-,y6,-,y7,-,y8,-,y9,-,y10,-,y11,-,y12,-,y13,-⟩:=qbp hF
   refine bodyPost_ret (v:=.tuple #[.agg #[.int .i64 0,.int .i64 0,.int .i64 0,.int .i64 0,.int .i64 0,.int .i64 0,.int .i64 0,.int .i64 0,.string ⟨#[]⟩,.int .i64 0,.int .i64 0,.slice none 0 0,.slice none 0 0,.int .i64 0],v]) (by simp [results,Tryz.results148,go_sem,y0,y1,y2,y3,y4,y5,y6,y7,y8,y9,y10,y11,y12,y13]) rfl ?_
   refine ⟨⟨zM,v,[qgi],rfl,qxd _,Or.inr ⟨by rw [HTV.out];decide,?_⟩,by simp,fun _=>⟨by simp,rfl⟩,(fun h=>by rw [HTV.out] at h;cases h),qmm _⟩,hFin⟩
   rw [HTV.out]
   exact qcd HR4.out (qcs _ _ _ _ _ _ _ _ _ _ _ _ _ _ (by simp)) hSM HCH.out
  ·have heq:(qbb s.data.toList).l.length % 2=0:=by have:=HDE.out;rw [hpa] at this;simpa using this
   have HTV:=hI (HTC.out HE0.out heq)
   have HCK2:=hI (HCK.out m (w2.alloc (.cells (msgC m) 247)) (HRM.out.next (bel1 w2 _)))
   unfold msgV at HCK2
   unfold msgC at HCK2
   clear heq HDE hpa HTC HCK
   go_wp2_with fail
   refine HCK2.out.mono ?_
   rintro e w4 ⟨⟨v,rfl,hv⟩,hb4⟩
   have HB4:=hI (qad (qab HB2.out _) hb4)
   have HR4:=hI ((hb4.block _ (by simp;omega)).trans ((Below.heap_alloc _ _ _ (by omega)).trans HRES0.out))
   have HMV:Hid (w4.heap[w2.heap.size]?=some (.cells #[.int .i64 m.k,.int .i64 m.fr,.int .i64 m.id,.int .i64 m.t,.int .i64 m.bal,.int .i64 m.abal,.int .i64 m.ph,.int .i64 m.q,.string m.pay,.int .i64 m.lo,.int .i64 m.hi,.slice m.aA m.ats.size m.aC,.slice m.mA m.mks.size m.mC,.int .i64 m.dn] 247 (0,0))):=(hb4.block _ (by simp)).trans (qcp w2 _)
   have HRM4:=hI (HRM.out.next (qad (bel1 w2 _) hb4))
   rcases hv with ⟨h0,-,rfl⟩ | ⟨h0,hch⟩
   ·have H0:=hI h0
    have HT0:Hid (qda s.data.toList=0):=by show _=_;have:=HTV.out;rw [H0.out] at this;omega
    obtain ⟨p0,-,p1,-,p2,-,p3,-,p4,-,p5,-,p6,-,p7,-,p8,-,p9,-,p10,-,p11,-,p12,-,p13,-⟩:=qbp HMV.out
    have hzz:w4.heap.size=w4.heap.size:=rfl
    clear h0 hb4 hzz HCK2
    have HALL:=hI (And.intro (qia HR4.out (.int .i64 m.k) (.int .i64 m.fr) (.int .i64 m.id) (.int .i64 m.t) (.int .i64 m.bal) (.int .i64 m.abal) (.int .i64 m.ph) (.int .i64 m.q) (.string m.pay) (.int .i64 m.lo) (.int .i64 m.hi) (.slice m.aA m.ats.size m.aC) (.slice m.mA m.mks.size m.mC) (.int .i64 m.dn)) (And.intro (qib w4 w.heap.size (.int .i64 m.k) (.int .i64 m.fr) (.int .i64 m.id) (.int .i64 m.t) (.int .i64 m.bal) (.int .i64 m.abal) (.int .i64 m.ph) (.int .i64 m.q) (.string m.pay) (.int .i64 m.lo) (.int .i64 m.hi) (.slice m.aA m.ats.size m.aC) (.slice m.mA m.mks.size m.mC) (.int .i64 m.dn)) (qqy HB4.out (Nat.le_refl _) (.int .i64 m.k) (.int .i64 m.fr) (.int .i64 m.id) (.int .i64 m.t) (.int .i64 m.bal) (.int .i64 m.abal) (.int .i64 m.ph) (.int .i64 m.q) (.string m.pay) (.int .i64 m.lo) (.int .i64 m.hi) (.slice m.aA m.ats.size m.aC) (.slice m.mA m.mks.size m.mC) (.int .i64 m.dn))))
    obtain ⟨u0,x0,u1,x1,u2,x2,u3,x3,u4,x4,u5,x5,u6,x6,u7,x7,u8,x8,u9,x9,u10,x10,u11,x11,u12,x12,u13,x13⟩:=qbp HR4.out
    go_wp2
    generalize ((((((((((((((w4.setCell ⟨w.heap.size,0,none⟩ (.int .i64 m.k)).setCell ⟨w.heap.size,1,none⟩ (.int .i64 m.fr)).setCell ⟨w.heap.size,2,none⟩ (.int .i64 m.id)).setCell ⟨w.heap.size,3,none⟩ (.int .i64 m.t)).setCell ⟨w.heap.size,4,none⟩ (.int .i64 m.bal)).setCell ⟨w.heap.size,5,none⟩ (.int .i64 m.abal)).setCell ⟨w.heap.size,6,none⟩ (.int .i64 m.ph)).setCell ⟨w.heap.size,7,none⟩ (.int .i64 m.q)).setCell ⟨w.heap.size,8,none⟩ (.string m.pay)).setCell ⟨w.heap.size,9,none⟩ (.int .i64 m.lo)).setCell ⟨w.heap.size,10,none⟩ (.int .i64 m.hi)).setCell ⟨w.heap.size,11,none⟩ (.slice m.aA m.ats.size m.aC)).setCell ⟨w.heap.size,12,none⟩ (.slice m.mA m.mks.size m.mC)).setCell ⟨w.heap.size,13,none⟩ (.int .i64 m.dn))=wf at HALL ⊢
    obtain ⟨hF,hSM,hFin⟩:=HALL.out
    obtain ⟨y0,-,y1,-,y2,-,y3,-,y4,-,y5,-,y6,-,y7,-,y8,-,y9,-,y10,-,y11,-,y12,-,y13,-⟩:=qbp hF
    refine bodyPost_ret (v:=.tuple #[.agg #[.int .i64 m.k,.int .i64 m.fr,.int .i64 m.id,.int .i64 m.t,.int .i64 m.bal,.int .i64 m.abal,.int .i64 m.ph,.int .i64 m.q,.string m.pay,.int .i64 m.lo,.int .i64 m.hi,.slice m.aA m.ats.size m.aC,.slice m.mA m.mks.size m.mC,.int .i64 m.dn],.nilIface]) (by simp [results,Tryz.results148,go_sem,y0,y1,y2,y3,y4,y5,y6,y7,y8,y9,y10,y11,y12,y13]) rfl ?_
    refine ⟨⟨m,.nilIface,[],rfl,?_,Or.inl ⟨by rw [HT0.out];rfl,rfl,rfl⟩,by simp,(fun h=>absurd HT0.out h),(fun _=>HMM.out),HGA.out,HGM.out⟩,hFin⟩
    exact ⟨HRM4.out.ra.grown hSM HNA.out,HRM4.out.rm.grown hSM HNM.out,HRM4.out.sa,HRM4.out.sm,HRM4.out.sp⟩
   ·have H0:=hI h0
    have HCH:=hI hch
    rw [if_neg h0] at HCH
    have HWr:=hI (qdo qgi [msgW] (chkM m) v w4 HCH.out)
    obtain ⟨b6,o6,u6,rfl,-⟩:=HCH.out
    clear h0 hch hb4 HCK2
    go_wp2_with fail
    refine HWr.out.mono ?_
    rintro e w5 ⟨v,rfl,hch5,hb5⟩
    have HCH5:=hI hch5
    have HB5:=hI (qad HB4.out hb5)
    have HR5:=hI ((hb5.block _ (qaa HR4.out)).trans HR4.out)
    clear hch5 hb5
    have HALL:=hI (And.intro (qia HR5.out (.int .i64 0) (.int .i64 0) (.int .i64 0) (.int .i64 0) (.int .i64 0) (.int .i64 0) (.int .i64 0) (.int .i64 0) (.string ⟨#[]⟩) (.int .i64 0) (.int .i64 0) (.slice none 0 0) (.slice none 0 0) (.int .i64 0)) (And.intro (qib w5 w.heap.size (.int .i64 0) (.int .i64 0) (.int .i64 0) (.int .i64 0) (.int .i64 0) (.int .i64 0) (.int .i64 0) (.int .i64 0) (.string ⟨#[]⟩) (.int .i64 0) (.int .i64 0) (.slice none 0 0) (.slice none 0 0) (.int .i64 0)) (qqy HB5.out (Nat.le_refl _) (.int .i64 0) (.int .i64 0) (.int .i64 0) (.int .i64 0) (.int .i64 0) (.int .i64 0) (.int .i64 0) (.int .i64 0) (.string ⟨#[]⟩) (.int .i64 0) (.int .i64 0) (.slice none 0 0) (.slice none 0 0) (.int .i64 0))))
    obtain ⟨u0,x0,u1,x1,u2,x2,u3,x3,u4,x4,u5,x5,u6,x6,u7,x7,u8,x8,u9,x9,u10,x10,u11,x11,u12,x12,u13,x13⟩:=qbp HR5.out
    go_wp2
    generalize ((((((((((((((w5.setCell ⟨w.heap.size,0,none⟩ (.int .i64 0)).setCell ⟨w.heap.size,1,none⟩ (.int .i64 0)).setCell ⟨w.heap.size,2,none⟩ (.int .i64 0)).setCell ⟨w.heap.size,3,none⟩ (.int .i64 0)).setCell ⟨w.heap.size,4,none⟩ (.int .i64 0)).setCell ⟨w.heap.size,5,none⟩ (.int .i64 0)).setCell ⟨w.heap.size,6,none⟩ (.int .i64 0)).setCell ⟨w.heap.size,7,none⟩ (.int .i64 0)).setCell ⟨w.heap.size,8,none⟩ (.string ⟨#[]⟩)).setCell ⟨w.heap.size,9,none⟩ (.int .i64 0)).setCell ⟨w.heap.size,10,none⟩ (.int .i64 0)).setCell ⟨w.heap.size,11,none⟩ (.slice none 0 0)).setCell ⟨w.heap.size,12,none⟩ (.slice none 0 0)).setCell ⟨w.heap.size,13,none⟩ (.int .i64 0))=wf at HALL ⊢
    obtain ⟨hF,hSM,hFin⟩:=HALL.out
    obtain ⟨y0,-,y1,-,y2,-,y3,-,y4,-,y5,-,y6,-,y7,-,y8,-,y9,-,y10,-,y11,-,y12,-,y13,-⟩:=qbp hF
    refine bodyPost_ret (v:=.tuple #[.agg #[.int .i64 0,.int .i64 0,.int .i64 0,.int .i64 0,.int .i64 0,.int .i64 0,.int .i64 0,.int .i64 0,.string ⟨#[]⟩,.int .i64 0,.int .i64 0,.slice none 0 0,.slice none 0 0,.int .i64 0],v]) (by simp [results,Tryz.results148,go_sem,y0,y1,y2,y3,y4,y5,y6,y7,y8,y9,y10,y11,y12,y13]) rfl ?_
    refine ⟨⟨zM,v,[qgi,msgW],rfl,qxd _,Or.inr ⟨by rw [HTV.out];exact H0.out,?_⟩,by simp,fun _=>⟨by simp,rfl⟩,(fun h=>absurd (by rw [←HTV.out,h];rfl) H0.out),qmm _⟩,hFin⟩
    rw [HTV.out]
    exact qcd HR5.out (qcs _ _ _ _ _ _ _ _ _ _ _ _ _ _ (by simp)) hSM HCH5.out
 ·have HTV:=hI (HTE.out he)
  have HE0:=hI he
  have HOL:=hI hol
  have HWr:=hI (qdo qgi (op :: ops) _ ev _ hch)
  obtain ⟨b6,o6,u6,rfl,-⟩:=hch
  clear he HDE HTC HCK hol
  go_wp2_with fail
  refine HWr.out.mono ?_
  rintro e w4 ⟨v,rfl,hch4,hb4⟩
  have HCH:=hI hch4
  have HB4:=hI (qad (qab HB2.out _) hb4)
  have HR4:=hI ((hb4.block _ (by simp;omega)).trans ((Below.heap_alloc _ _ _ (by omega)).trans HRES0.out))
  clear hch4 hb4
  have HALL:=hI (And.intro (qia HR4.out (.int .i64 0) (.int .i64 0) (.int .i64 0) (.int .i64 0) (.int .i64 0) (.int .i64 0) (.int .i64 0) (.int .i64 0) (.string ⟨#[]⟩) (.int .i64 0) (.int .i64 0) (.slice none 0 0) (.slice none 0 0) (.int .i64 0)) (And.intro (qib w4 w.heap.size (.int .i64 0) (.int .i64 0) (.int .i64 0) (.int .i64 0) (.int .i64 0) (.int .i64 0) (.int .i64 0) (.int .i64 0) (.string ⟨#[]⟩) (.int .i64 0) (.int .i64 0) (.slice none 0 0) (.slice none 0 0) (.int .i64 0)) (qqy HB4.out (Nat.le_refl _) (.int .i64 0) (.int .i64 0) (.int .i64 0) (.int .i64 0) (.int .i64 0) (.int .i64 0) (.int .i64 0) (.int .i64 0) (.string ⟨#[]⟩) (.int .i64 0) (.int .i64 0) (.slice none 0 0) (.slice none 0 0) (.int .i64 0))))
  obtain ⟨u0,x0,u1,x1,u2,x2,u3,x3,u4,x4,u5,x5,u6,x6,u7,x7,u8,x8,u9,x9,u10,x10,u11,x11,u12,x12,u13,x13⟩:=qbp HR4.out
  go_wp2
  generalize ((((((((((((((w4.setCell ⟨w.heap.size,0,none⟩ (.int .i64 0)).setCell ⟨w.heap.size,1,none⟩ (.int .i64 0)).setCell ⟨w.heap.size,2,none⟩ (.int .i64 0)).setCell ⟨w.heap.size,3,none⟩ (.int .i64 0)).setCell ⟨w.heap.size,4,none⟩ (.int .i64 0)).setCell ⟨w.heap.size,5,none⟩ (.int .i64 0)).setCell ⟨w.heap.size,6,none⟩ (.int .i64 0)).setCell ⟨w.heap.size,7,none⟩ (.int .i64 0)).setCell ⟨w.heap.size,8,none⟩ (.string ⟨#[]⟩)).setCell ⟨w.heap.size,9,none⟩ (.int .i64 0)).setCell ⟨w.heap.size,10,none⟩ (.int .i64 0)).setCell ⟨w.heap.size,11,none⟩ (.slice none 0 0)).setCell ⟨w.heap.size,12,none⟩ (.slice none 0 0)).setCell ⟨w.heap.size,13,none⟩ (.int .i64 0))=wf at HALL ⊢
  obtain ⟨hF,hSM,hFin⟩:=HALL.out
  obtain ⟨y0,-,y1,-,y2,-,y3,-,y4,-,y5,-,y6,-,y7,-,y8,-,y9,-,y10,-,y11,-,y12,-,y13,-⟩:=qbp hF
  refine bodyPost_ret (v:=.tuple #[.agg #[.int .i64 0,.int .i64 0,.int .i64 0,.int .i64 0,.int .i64 0,.int .i64 0,.int .i64 0,.int .i64 0,.string ⟨#[]⟩,.int .i64 0,.int .i64 0,.slice none 0 0,.slice none 0 0,.int .i64 0],v]) (by simp [results,Tryz.results148,go_sem,y0,y1,y2,y3,y4,y5,y6,y7,y8,y9,y10,y11,y12,y13]) rfl ?_
  refine ⟨⟨zM,v,qgi :: op :: ops,rfl,qxd _,Or.inr ⟨by rw [HTV.out];have:=HE0.out;omega,?_⟩,by have:=HOL.out;simp;omega,fun _=>⟨by simp,rfl⟩,(fun h=>absurd (by rw [←HTV.out,h]) HE0.out),qmm _⟩,hFin⟩
  rw [HTV.out]
  exact qcd HR4.out (qcs _ _ _ _ _ _ _ _ _ _ _ _ _ _ (by simp)) hSM HCH.out
theorem mTake_any (s:ByteArray) (w:World) (hg:Glob w) (hs:s.size≤1000000) :
 Calls Tryz.prog 148 #[.string s] w fun e w'=>TakeP s e w'∧Below w.heap.size w w':=(qxe s w hg hs).mono fun _ _ ⟨h,hb⟩=>⟨h.take,hb⟩
end Go.Proofs.YtjkecckndfcbjaaGreatDoor
namespace Go.Proofs.YtjkecckndfcbjaaGreatDoor
open Go.RowKit Go.Sort Nb
end Go.Proofs.YtjkecckndfcbjaaGreatDoor
namespace Go.Proofs.YtjkecckndfcbjaaGreatDoor
open Go.RowKit Go.Sort Nb
theorem qdq {w:World} {ops:List ByteArray} {c:Int} {v:Value} (h:ErrV w ops c v) (hc:c≠0):Chain w ops c v:=by
 rcases h with ⟨h,_⟩ | ⟨_,h⟩
 ·exact absurd h hc
 ·exact h
end Go.Proofs.YtjkecckndfcbjaaGreatDoor
namespace Go.Proofs.YtjkecckndfcbjaaGreatDoor
open Go.RowKit Go.Sort Nb
theorem qbz {w W:World} {o:Obj} (h:Below (w.alloc o).heap.size (w.alloc o) W):W.heap[w.heap.size]?=some o:=(h.block _ (by simp)).trans (qcp w o)
end Go.Proofs.YtjkecckndfcbjaaGreatDoor
