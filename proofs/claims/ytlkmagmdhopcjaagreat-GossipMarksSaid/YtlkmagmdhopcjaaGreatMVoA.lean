/- Texts that the law leans on. -/
import Derived.BigGuardPart
import Derived.Test.YtlkmagmdhopcjaaGreatMRead
import Derived.Test.YtlkmagmdhopcjaaGreatMEnC
import Derived.Test.YtlkmagmdhopcjaaGreatMBoxG
import Derived.Defers
import Derived.Test.YtlkmagmdhopcjaaGreatMStC
namespace Go.Proofs.YtlkmagmdhopcjaaGreat
open Go.RowKit Go.Sort Go.Lib
set_option maxRecDepth 100000
structure ButG (g:Nat) (w w':World):Prop where
 os:w'.os=w.os
 tape:w'.tape=w.tape
 output:w'.output=w.output
 size:w.heap.size≤w'.heap.size
 block:∀ k,k < w.heap.size→k≠g→w'.heap[k]?=w.heap[k]?
theorem ButG.refl (g:Nat) (w:World):ButG g w w:=⟨rfl,rfl,rfl,Nat.le_refl _,fun _ _ _=>rfl⟩
theorem ButG.trans {g:Nat} {a b c:World} (h:ButG g a b) (k:ButG g b c):ButG g a c :=
 ⟨k.os.trans h.os,k.tape.trans h.tape,k.output.trans h.output,Nat.le_trans h.size k.size,fun i hi hg=>(k.block i (Nat.lt_of_lt_of_le hi h.size) hg).trans (h.block i hi hg)⟩
theorem ButG.of {w w':World} (g:Nat) (h:Below w.heap.size w w'):ButG g w w':=⟨h.os,h.tape,h.output,h.size,fun k hk _=>h.block k hk⟩
theorem ButG.set {g:Nat} {w a:World} (h:ButG g w a) (j:Nat) (v:Value):ButG g w (a.setCell ⟨g,j,none⟩ v) :=
 ⟨h.os,h.tape,h.output,by simpa using h.size,fun k hk hg=>(Below.heap_setCell _ _ _ _ hg).trans (h.block k hk hg)⟩
theorem ButG.below {g B:Nat} {w a b:World} (h:Below B w a) (k:ButG g a b) (hg:B≤g) (hB:B≤a.heap.size):Below B w b :=
 h.trans ⟨k.os,k.tape,k.output,k.size,fun i hi=>k.block i (by omega) (by omega)⟩
theorem ButG.cell {g:Nat} {w w':World} (h:ButG g w w') {p:Addr} (hp:p.block < w.heap.size) (hg:p.block≠g):w'.cell? p=w.cell? p:=by
 simp [World.cell?,h.block p.block hp hg]
def boC (a b:EN) (x:Int):Array Value:=#[.int .i64 a.id,.int .i64 a.ph,.int .i64 a.qu,.int .i64 a.t,.int .i64 a.bal,.int .i64 a.abal,.int .i64 a.seen,.int .i64 a.age,.string a.pay,.slice a.A a.z.size a.c,
 .int .i64 b.id,.int .i64 b.ph,.int .i64 b.qu,.int .i64 b.t,.int .i64 b.bal,.int .i64 b.abal,.int .i64 b.seen,.int .i64 b.age,.string b.pay,.slice b.A b.z.size b.c,.int .i64 x]
def BoAt (W:World) (g:Nat) (a b:EN) (x:Int):Prop:=W.heap[g]?=some (.cells (boC a b x) 261 (0,0))
section
variable {W W':World} {g:Nat} {a b:EN} {x:Int}
theorem BoAt.at_ (h:BoAt W g a b x) (j:Nat) {v:Value} (hj:(boC a b x)[j]?=some v):W.cell? ⟨g,j,none⟩=some v:=(cell_of_row W _ j _ _ (0,0) h).trans hj
theorem BoAt.froz (h:BoAt W g a b x) (j:Nat):W.frozen? ⟨g,j,none⟩=false:=by
 have h':W.heap[g]?=some (.cells (boC a b x) 261 (0,0)):=h
 simp [World.frozen?,h']
theorem BoAt.lt (h:BoAt W g a b x):g < W.heap.size:=qal h
theorem BoAt.below (h:BoAt W g a b x) (hb:Below W.heap.size W W'):BoAt W' g a b x:=(hb.block _ h.lt).trans h
end
def qun (x:Int) (s:Bool) (k:Int):Int:=if x=0∧s=false then k else x
theorem qfd (g:Nat) (a b:EN) (x k:Int) (s:Bool) (w:World) (h:BoAt w g a b x) :
 Calls Tryz.prog 242 #[.pointer (some ⟨g,0,none⟩),.bool s,.int .i64 k] w fun e w'=>e=.returned (.tuple #[])∧BoAt w' g a b (qun x s k)∧ButG g w w':=by
 have c20:=h.at_ 20 (v:=.int .i64 x) rfl
 have f20:=h.froz 20
 have H:=hI h
 clear h
 by_cases hx:x=0
 ·subst hx
  cases s
  ·go_enter Tryz.func242,Tryz.ntmps242
   go_wp2
   go_end0
   exact ⟨rfl,qfr H.out 20 _,(ButG.refl g w).set 20 _⟩
  ·go_enter Tryz.func242,Tryz.ntmps242
   go_wp2
   go_end0
   exact ⟨rfl,H.out,ButG.refl g w⟩
 ·have hx':(x == 0)=false:=by simpa using hx
  have HM:Hid (qun x s k=x):=by show _=_;unfold qun;rw [if_neg (fun h=>hx h.1)]
  go_enter Tryz.func242,Tryz.ntmps242
  go_wp2
  go_end0
  exact ⟨rfl,by rw [HM.out];exact H.out,ButG.refl g w⟩
def vtB (t:Int):Bool:=decide (1≤t∧t≤1000000)
theorem vTime_any (t:Int) (w:World):Calls Tryz.prog 244 #[.int .i64 t] w fun e w'=>e=.returned (.bool (vtB t))∧w=w':=by
 go_enter Tryz.func244,Tryz.ntmps244
 go_wp2
 all_goals
  go_ret
  exact ⟨qel (by simp <;> omega),rfl⟩
theorem voted_any (t:Int) (w:World):Calls Tryz.prog 243 #[.int .i64 t] w fun e w'=>e=.returned (.bool (vtB t))∧w=w':=by
 go_enter Tryz.func243,Tryz.ntmps243
 go_wp2
 all_goals
  go_ret
  exact ⟨qel (by simp <;> omega),rfl⟩
theorem qnj (g:Nat) (a b:EN) (x:Int) (w:World) (h:BoAt w g a b x) :
 Calls Tryz.prog 245 #[.pointer (some ⟨g,0,none⟩)] w fun e w'=>e=.returned (.tuple #[])∧BoAt w' g a b (qun x (!qee b.ph) 33)∧ButG g w w':=by
 have c11:=h.at_ 11 (v:=.int .i64 b.ph) rfl
 have HS:Hid (∀ W,Calls Tryz.prog 144 #[.int .i64 b.ph] W fun e w'=>e=.returned (.bool (qee b.ph))∧W=w'):=fun W=>(qem b.ph W).mono fun e w' h=>⟨h.1,h.2.symm⟩
 have HM:=hI (fun s=>qfd g a b x 33 s w h)
 obtain ⟨S,hS⟩:∃ S,qee b.ph=S:=⟨_,rfl⟩
 rw [hS] at HS ⊢
 clear h hS
 go_enter Tryz.func245,Tryz.ntmps245
 go_wp2_with (first
  | (go_at_call 144;refine (HS.out _).mono ?_;rintro _ _ ⟨rfl,rfl⟩)
  | (go_at_call 242;refine (HM.out _).mono ?_;rintro _ w2 ⟨rfl,h2,h3⟩;have H2:=hI h2;have H3:=hI h3;clear h2 h3))
 go_end0
 exact ⟨rfl,H2.out,H3.out⟩
def qkm (b:EN) (act:Int):EN:=if nxE b.ph act=0 then { b with ph:=nxP b.ph act } else b
set_option maxHeartbeats 4000000 in
theorem qso (g:Nat) (a b:EN) (x act:Int) (w:World) (h:BoAt w g a b x) :
 Calls Tryz.prog 246 #[.pointer (some ⟨g,0,none⟩),.int .i64 act] w fun e w'=>e=.returned (.tuple #[])∧BoAt w' g a (qkm b act) (qun x (decide (nxE b.ph act=0)) 33)∧ButG g w w':=by
 have c11:=h.at_ 11 (v:=.int .i64 b.ph) rfl
 have H:=hI h
 have HN:=hI (qyb b.ph act w)
 have HST:Hid (qkm b act=if nxE b.ph act=0 then { b with ph:=nxP b.ph act } else b):=rfl
 obtain ⟨e,he⟩:∃ e,nxE b.ph act=e:=⟨_,rfl⟩
 obtain ⟨p,hp⟩:∃ p,nxP b.ph act=p:=⟨_,rfl⟩
 rw [he] at HN HST ⊢
 rw [hp] at HN HST
 obtain ⟨S,hS⟩:∃ S,qkm b act=S:=⟨_,rfl⟩
 rw [hS] at HST ⊢
 clear h he hp hS
 by_cases h0:e=0
 ·subst h0
  rw [if_pos rfl] at HST
  go_enter Tryz.func246,Tryz.ntmps246
  go_upto_region 2 with (go_at_call 271;refine HN.out.mono ?_;rintro _ w1 ⟨rfl,hb⟩;have H1:=hI (H.out.below hb);have HB1:=hI (ButG.of g hb);clear hb c11;have c11:=H1.out.at_ 11 (v:=.int .i64 b.ph) rfl;have f11:=H1.out.froz 11)
  have H2:Hid (BoAt (w1.setCell ⟨g,11,none⟩ (.int .i64 p)) g a S x):=by rw [HST.out];exact qfr H1.out 11 _
  have HB2:=hI (HB1.out.set 11 (.int .i64 p))
  go_upto_region 3 with fail
  generalize w1.setCell ⟨g,11,none⟩ (.int .i64 p)=w2 at H2 HB2 ⊢
  clear c11 f11 H1 HB1
  go_wp2_with (go_at_call 242;refine (qfd g a S x 33 true _ H2.out).mono ?_;rintro _ w3 ⟨rfl,h2,h3⟩;have H3:=hI h2;have HB3:=hI (HB2.out.trans h3);clear h2 h3)
  go_end0
  exact ⟨rfl,H3.out,HB3.out⟩
 ·rw [if_neg h0] at HST
  have h0':(e == 0)=false:=by simpa using h0
  have HD:Hid (decide (e=0)=false):=decide_eq_false h0
  rw [HD.out]
  go_enter Tryz.func246,Tryz.ntmps246
  go_wp2_with (first
   | (go_at_call 271;refine HN.out.mono ?_;rintro _ w1 ⟨rfl,hb⟩;have H1:=hI (H.out.below hb);have HB1:=hI (ButG.of g hb);clear hb c11)
   | (go_at_call 242;refine (qfd g a b x 33 false _ H1.out).mono ?_;rintro _ w3 ⟨rfl,h2,h3⟩;have H3:=hI h2;have HB3:=hI (HB1.out.trans h3);clear h2 h3))
  go_end0
  exact ⟨rfl,by rw [HST.out];exact H3.out,HB3.out⟩
def qkn (e:EN):Bool:=qcp e && decide (e.ph=1) && decide (e.bal=0)
set_option maxHeartbeats 4000000 in
theorem qnk (e:EN) (w:World) (hr:RdE w e) (hc:e.z.size≤e.c):Calls Tryz.prog 195 #[.agg (encE e).toArray] w fun r w'=>r=.returned (.bool (qkn e))∧Below w.heap.size w w':=by
 have HX:=hI (BoxW.init w (encE e).toArray 58)
 have HC:Hid (∀ W,Below w.heap.size w W→Calls Tryz.prog 190 #[.agg (encE e).toArray] W fun r w'=>r=.returned (.int .i64 (enE e))∧Below W.heap.size W w'):=fun W hb=>qfe e W (hr.below hb) hc
 have HE:Hid (enE e=if qcp e=true then 0 else 2):=rfl
 have HN:Hid (qkn e=(qcp e && decide (e.ph=1) && decide (e.bal=0))):=rfl
 obtain ⟨E,hE⟩:∃ E,enE e=E:=⟨_,rfl⟩
 obtain ⟨B,hB⟩:∃ B,qkn e=B:=⟨_,rfl⟩
 obtain ⟨c,hch⟩:∃ c,qcp e=c:=⟨_,rfl⟩
 rw [hE] at HC HE
 rw [hch] at HE HN
 rw [hB] at HN ⊢
 simp only [encE] at HX HC ⊢
 clear hr hc hE hB hch
 go_enter Tryz.func195,Tryz.ntmps195
 have c0:=HX.out.at_ 1
 have c1:=HX.out.at_ 4
 cases c
 ·have e2:E=2:=HE.out
  subst e2
  have HF:Hid (B=false):=HN.out
  go_wp2_with (go_at_call 190;refine (HC.out _ HX.out.b).mono ?_;rintro _ w1 ⟨rfl,hb⟩;have HX1:=hI (HX.out.next hb);clear hb c0 c1)
  go_ret
  exact ⟨qac HF.out.symm,HX1.out.b⟩
 ·have e2:E=0:=HE.out
  subst e2
  have HT:Hid (B=(decide (e.ph=1) && decide (e.bal=0))):=by show _=_;rw [HN.out,Bool.true_and]
  go_wp2_with (go_at_call 190;refine (HC.out _ HX.out.b).mono ?_;rintro _ w1 ⟨rfl,hb⟩;have HX1:=hI (HX.out.next hb);clear hb c0 c1;have c1:=HX1.out.at_ 1;have c4:=HX1.out.at_ 4)
  all_goals
   go_ret
   refine ⟨qac ?_,HX1.out.b⟩
   rw [HT.out]
   grind
end Go.Proofs.YtlkmagmdhopcjaaGreat
namespace Go.Proofs.YtlkmagmdhopcjaaGreat
open Go.RowKit Go.Sort Go.Lib
set_option maxRecDepth 100000
def zE:Array Value:=#[.int .i64 0,.int .i64 0,.int .i64 0,.int .i64 0,.int .i64 0,.int .i64 0,.int .i64 0,.int .i64 0,.string ⟨#[]⟩,.slice none 0 0]
theorem qay {W:World} {g:Nat} {e:EN} {T:TypeId} (h:W.heap[g]?=some (.cells (encE e).toArray T (0,0))) (j:Nat) {v:Value} (hj:(encE e)[j]?=some v):W.cell? ⟨g,j,none⟩=some v :=
 (cell_of_row W _ j _ _ (0,0) h).trans (by simpa using hj)
theorem qdd {W:World} {g:Nat} {cs:Array Value} {T:TypeId} (h:W.heap[g]?=some (.cells cs T (0,0))) (j:Nat):W.frozen? ⟨g,j,none⟩=false:=by simp [World.frozen?,h]
set_option maxHeartbeats 8000000 in
theorem enter_any (e:EN) (w:World) (hr:RdE w e) (hc:e.z.size≤e.c):Calls Tryz.prog 240 #[.agg (encE e).toArray] w fun r w'=>(∃ g,r=.returned (.pointer (some ⟨g,0,none⟩))∧BoAt w' g e e (enE e)∧w.heap.size≤g)∧Below w.heap.size w w':=by
 have HX:=hI (BoxW.init w (encE e).toArray 58)
 have HC:Hid (∀ W,Below w.heap.size w W→Calls Tryz.prog 190 #[.agg (encE e).toArray] W fun r w'=>r=.returned (.int .i64 (enE e))∧Below W.heap.size W w'):=fun W hb=>qfe e W (hr.below hb) hc
 have HE:Hid (enE e=if qcp e=true then 0 else 2):=rfl
 obtain ⟨E,hE⟩:∃ E,enE e=E:=⟨_,rfl⟩
 obtain ⟨c,hch⟩:∃ c,qcp e=c:=⟨_,rfl⟩
 rw [hE] at HC HE ⊢
 rw [hch] at HE
 simp only [encE] at HX HC ⊢
 clear hr hc hE hch
 go_enter Tryz.func240,Tryz.ntmps240
 go_upto_region 2 with fail
 have HB2:Hid (Below w.heap.size w ((w.alloc (.cells #[.int .i64 e.id,.int .i64 e.ph,.int .i64 e.qu,.int .i64 e.t,.int .i64 e.bal,.int .i64 e.abal,.int .i64 e.seen,.int .i64 e.age,.string e.pay,.slice e.A e.z.size e.c] 58)).alloc (.cells (boC e e 0) 261))):=qab (bel1 w _) _
 have HE2:=hI (HX.out.next (bel1 _ (.cells (boC e e 0) 261)))
 have HG:Hid (BoAt ((w.alloc (.cells #[.int .i64 e.id,.int .i64 e.ph,.int .i64 e.qu,.int .i64 e.t,.int .i64 e.bal,.int .i64 e.abal,.int .i64 e.seen,.int .i64 e.age,.string e.pay,.slice e.A e.z.size e.c] 58)).alloc (.cells (boC e e 0) 261)) (w.heap.size + 1) e e 0):=heap_alloc2_new w _ _
 simp only [boC] at HB2 HE2 HG
 obtain ⟨g,hg⟩:∃ g,w.heap.size + 1=g:=⟨_,rfl⟩
 rw [hg] at HG ⊢
 have hgw:w.heap.size≤g:=by omega
 generalize (w.alloc (.cells #[.int .i64 e.id,.int .i64 e.ph,.int .i64 e.qu,.int .i64 e.t,.int .i64 e.bal,.int .i64 e.abal,.int .i64 e.seen,.int .i64 e.age,.string e.pay,.slice e.A e.z.size e.c] 58)).alloc (.cells #[.int .i64 e.id,.int .i64 e.ph,.int .i64 e.qu,.int .i64 e.t,.int .i64 e.bal,.int .i64 e.abal,.int .i64 e.seen,.int .i64 e.age,.string e.pay,.slice e.A e.z.size e.c,.int .i64 e.id,.int .i64 e.ph,.int .i64 e.qu,.int .i64 e.t,.int .i64 e.bal,.int .i64 e.abal,.int .i64 e.seen,.int .i64 e.age,.string e.pay,.slice e.A e.z.size e.c,.int .i64 0] 261)=w2 at HB2 HE2 HG ⊢
 clear HX hg
 have c0:=HE2.out.at_ 0
 have c1:=HE2.out.at_ 1
 have c2:=HE2.out.at_ 2
 have c3:=HE2.out.at_ 3
 have c4:=HE2.out.at_ 4
 have c5:=HE2.out.at_ 5
 have c6:=HE2.out.at_ 6
 have c7:=HE2.out.at_ 7
 have c8:=HE2.out.at_ 8
 have c9:=HE2.out.at_ 9
 cases c
 ·have e2:E=2:=HE.out
  subst e2
  go_wp2_with (go_at_call 190;refine (HC.out _ HB2.out).mono ?_;rintro _ w3 ⟨rfl,hb⟩;have HB3:=hI (qaa HB2.out hb);have HG3:=hI (HG.out.below hb);clear hb c0 c1 c2 c3 c4 c5 c6 c7 c8 c9;have d20:=HG3.out.at_ 20 (v:=.int .i64 0) rfl;have f20:=HG3.out.froz 20)
  go_ret
  exact ⟨⟨g,rfl,qfr HG3.out 20 _,hgw⟩,HB3.out.setCell (p:=⟨g,20,none⟩) hgw _⟩
 ·have e2:E=0:=HE.out
  subst e2
  go_wp2_with (go_at_call 190;refine (HC.out _ HB2.out).mono ?_;rintro _ w3 ⟨rfl,hb⟩;have HB3:=hI (qaa HB2.out hb);have HG3:=hI (HG.out.below hb);clear hb c0 c1 c2 c3 c4 c5 c6 c7 c8 c9)
  go_ret
  exact ⟨⟨g,rfl,HG3.out,hgw⟩,HB3.out⟩
structure ButP (p q:Nat) (w w':World):Prop where
 os:w'.os=w.os
 tape:w'.tape=w.tape
 output:w'.output=w.output
 size:w.heap.size≤w'.heap.size
 block:∀ k,k≠p→k≠q→w'.heap[k]?=w.heap[k]?
theorem qju {g:Nat}:∀ (l:List Value) (i:Nat) (W:World),(setL W g l i).os=W.os∧(setL W g l i).tape=W.tape∧(setL W g l i).output=W.output
 | [],_,_=>⟨rfl,rfl,rfl⟩
 | _ :: l,i,_=>qju l (i + 1) _
theorem butP_setL {p q:Nat} {w W:World} (h:ButP p q w W) (l:List Value):ButP p q w (setL W p l 0):=by
 obtain ⟨a,b,c⟩:=qju (g:=p) l 0 W
 exact ⟨a.trans h.os,b.trans h.tape,c.trans h.output,by rw [qjb];exact h.size,fun k k1 k2=>(qja k1 _ _ _).trans (h.block k k1 k2)⟩
theorem setA_entB (a b:EN):setA (encE a).toArray (encE b) 0=(encE b).toArray:=by simp [setA,encE]
theorem qsp (b:EN):setA zE (encE b) 0=(encE b).toArray:=by simp [setA,encE,zE]
set_option maxHeartbeats 1000000 in
theorem quo (g p q:Nat) (a b:EN) (x:Int) (T T':TypeId) (u:FrameMode) (w:World) (h:BoAt w g a b x) (hp:w.heap[p]?=some (.cells zE T (0,0))) (hq:w.heap[q]?=some (.cells #[.int .i64 0] T' (0,0))) (n1:p≠g) (n2:q≠g) (n3:p≠q) :
 CallsD Tryz.prog 241 #[.pointer (some ⟨g,0,none⟩),.pointer (some ⟨p,0,none⟩),.pointer (some ⟨q,0,none⟩)] u w fun e u' w'=>u'=u∧(e=.returned (.tuple #[])∧w'.heap[p]?=some (.cells (encE (if x=0 then b else a)).toArray T (0,0))∧w'.heap[q]?=some (.cells #[.int .i64 x] T' (0,0))∧ButP p q w w'):=by
 have d0:=h.at_ 10 (v:=.int .i64 b.id) rfl
 have d1:=h.at_ 11 (v:=.int .i64 b.ph) rfl
 have d2:=h.at_ 12 (v:=.int .i64 b.qu) rfl
 have d3:=h.at_ 13 (v:=.int .i64 b.t) rfl
 have d4:=h.at_ 14 (v:=.int .i64 b.bal) rfl
 have d5:=h.at_ 15 (v:=.int .i64 b.abal) rfl
 have d6:=h.at_ 16 (v:=.int .i64 b.seen) rfl
 have d7:=h.at_ 17 (v:=.int .i64 b.age) rfl
 have d8:=h.at_ 18 (v:=.string b.pay) rfl
 have d9:=h.at_ 19 (v:=.slice b.A b.z.size b.c) rfl
 have d20:=h.at_ 20 (v:=.int .i64 x) rfl
 have z0:w.cell? ⟨p,0,none⟩=some (.int .i64 0):=(cell_of_row w _ 0 _ _ (0,0) hp).trans rfl
 have z1:w.cell? ⟨p,1,none⟩=some (.int .i64 0):=(cell_of_row w _ 1 _ _ (0,0) hp).trans rfl
 have z2:w.cell? ⟨p,2,none⟩=some (.int .i64 0):=(cell_of_row w _ 2 _ _ (0,0) hp).trans rfl
 have z3:w.cell? ⟨p,3,none⟩=some (.int .i64 0):=(cell_of_row w _ 3 _ _ (0,0) hp).trans rfl
 have z4:w.cell? ⟨p,4,none⟩=some (.int .i64 0):=(cell_of_row w _ 4 _ _ (0,0) hp).trans rfl
 have z5:w.cell? ⟨p,5,none⟩=some (.int .i64 0):=(cell_of_row w _ 5 _ _ (0,0) hp).trans rfl
 have z6:w.cell? ⟨p,6,none⟩=some (.int .i64 0):=(cell_of_row w _ 6 _ _ (0,0) hp).trans rfl
 have z7:w.cell? ⟨p,7,none⟩=some (.int .i64 0):=(cell_of_row w _ 7 _ _ (0,0) hp).trans rfl
 have z8:w.cell? ⟨p,8,none⟩=some (.string ⟨#[]⟩):=(cell_of_row w _ 8 _ _ (0,0) hp).trans rfl
 have z9:w.cell? ⟨p,9,none⟩=some (.slice none 0 0):=(cell_of_row w _ 9 _ _ (0,0) hp).trans rfl
 have y0:=qdd hp 0
 have y1:=qdd hp 1
 have y2:=qdd hp 2
 have y3:=qdd hp 3
 have y4:=qdd hp 4
 have y5:=qdd hp 5
 have y6:=qdd hp 6
 have y7:=qdd hp 7
 have y8:=qdd hp 8
 have y9:=qdd hp 9
 have q0:w.cell? ⟨q,0,none⟩=some (.int .i64 0):=(cell_of_row w _ 0 _ _ (0,0) hq).trans rfl
 have r0:=qdd hq 0
 have H:=hI h
 have HP:=hI hp
 have HQ:=hI hq
 clear h hp hq
 obtain ⟨ea,hea⟩:∃ ea,(encE a).toArray=ea:=⟨_,rfl⟩
 obtain ⟨eb,heb⟩:∃ eb,(encE b).toArray=eb:=⟨_,rfl⟩
 have HEA:=hI hea
 have HEB:=hI heb
 have HIE:Hid ((encE (if x=0 then b else a)).toArray=if x=0 then eb else ea):=by
  show _=_
  rw [←HEA.out,←HEB.out]
  split <;> rfl
 rw [HIE.out]
 clear hea heb HIE
 by_cases hx:x=0
 ·subst hx
  rw [if_pos rfl]
  go_enter_d Tryz.func241,Tryz.ntmps241
  go_wp2
  go_region
  obtain ⟨W0,hW0⟩:∃ W,W=setL w p (encE b) 0:=⟨_,rfl⟩
  have HP0:Hid (W0.heap[p]?=some (.cells (encE b).toArray T (0,0))):=by show _=_;rw [hW0,←qsp b];exact qgk _ _ _ _ HP.out
  have HF0:Hid (∀ k,k≠p→W0.heap[k]?=w.heap[k]?):=fun k hk=>by rw [hW0];exact qja hk _ _ _
  have HM0:Hid ((W0.os=w.os∧W0.tape=w.tape∧W0.output=w.output)∧W0.heap.size=w.heap.size):=by rw [hW0];exact ⟨qju _ _ _,qjb _ _ _⟩
  simp only [encE,setL,Nat.zero_add,Nat.reduceAdd] at hW0
  rw [←hW0]
  clear hW0
  obtain ⟨W1,hW1⟩:∃ W,W=(W0.setCell ⟨q,0,none⟩ (.int .i64 0)).drew:=⟨_,rfl⟩
  have HQ1:Hid (W1.heap[q]?=some (.cells #[.int .i64 0] T' (0,0))):=by
   show _=_
   rw [hW1]
   exact qfr ((HF0.out q (Ne.symm n3)).trans HQ.out) 0 _
  have HB1:Hid (ButP p q w W1):=by
   show ButP _ _ _ _
   rw [hW1]
   exact ⟨HM0.out.1.1,HM0.out.1.2.1,HM0.out.1.2.2,by show _≤(W0.setCell ⟨q,0,none⟩ (.int .i64 0)).heap.size;have:=HM0.out.2;simp;omega,fun k k1 k2=>(Below.heap_setCell _ _ _ _ k2).trans (HF0.out k k1)⟩
  have HP1:Hid (W1.heap[p]?=some (.cells (encE b).toArray T (0,0))):=by
   show _=_
   rw [hW1]
   exact (Below.heap_setCell _ _ _ _ n3).trans HP0.out
  have HG1:Hid (BoAt W1 g a b 0):=(HB1.out.block g (Ne.symm n1) (Ne.symm n2)).trans H.out
  rw [←hW1]
  clear hW1 HP0 HF0 HM0 z0 y0 d0 z1 y1 d1 z2 y2 d2 z3 y3 d3 z4 y4 d4 z5 y5 d5 z6 y6 d6 z7 y7 d7 z8 y8 d8 z9 y9 d9 d20 q0 r0
  have d20:=HG1.out.at_ 20 (v:=.int .i64 0) rfl
  go_wp2
  go_end0
  exact ⟨rfl,by rw [←HEB.out];exact HP1.out,HQ1.out,HB1.out⟩
 ·have hx':(x != 0)=true:=by simpa using hx
  rw [if_neg hx]
  go_enter_d Tryz.func241,Tryz.ntmps241
  go_wp2
  go_region
  obtain ⟨W0,hW0⟩:∃ W,W=setL w p (encE b) 0:=⟨_,rfl⟩
  have HP0:Hid (W0.heap[p]?=some (.cells (encE b).toArray T (0,0))):=by show _=_;rw [hW0,←qsp b];exact qgk _ _ _ _ HP.out
  have HF0:Hid (∀ k,k≠p→W0.heap[k]?=w.heap[k]?):=fun k hk=>by rw [hW0];exact qja hk _ _ _
  have HM0:Hid ((W0.os=w.os∧W0.tape=w.tape∧W0.output=w.output)∧W0.heap.size=w.heap.size):=by rw [hW0];exact ⟨qju _ _ _,qjb _ _ _⟩
  simp only [encE,setL,Nat.zero_add,Nat.reduceAdd] at hW0
  rw [←hW0]
  clear hW0
  obtain ⟨W1,hW1⟩:∃ W,W=(W0.setCell ⟨q,0,none⟩ (.int .i64 x)).drew:=⟨_,rfl⟩
  have HQ1:Hid (W1.heap[q]?=some (.cells #[.int .i64 x] T' (0,0))):=by
   show _=_
   rw [hW1]
   exact qfr ((HF0.out q (Ne.symm n3)).trans HQ.out) 0 _
  have HB1:Hid (ButP p q w W1):=by
   show ButP _ _ _ _
   rw [hW1]
   exact ⟨HM0.out.1.1,HM0.out.1.2.1,HM0.out.1.2.2,by show _≤(W0.setCell ⟨q,0,none⟩ (.int .i64 x)).heap.size;have:=HM0.out.2;simp;omega,fun k k1 k2=>(Below.heap_setCell _ _ _ _ k2).trans (HF0.out k k1)⟩
  have HP1:Hid (W1.heap[p]?=some (.cells (encE b).toArray T (0,0))):=by
   show _=_
   rw [hW1]
   exact (Below.heap_setCell _ _ _ _ n3).trans HP0.out
  have HG1:Hid (BoAt W1 g a b x):=(HB1.out.block g (Ne.symm n1) (Ne.symm n2)).trans H.out
  rw [←hW1]
  clear hW1 HP0 HF0 HM0 z0 y0 d0 z1 y1 d1 z2 y2 d2 z3 y3 d3 z4 y4 d4 z5 y5 d5 z6 y6 d6 z7 y7 d7 z8 y8 d8 z9 y9 d9 d20 q0 r0
  have d20:=HG1.out.at_ 20 (v:=.int .i64 x) rfl
  have d0:=HG1.out.at_ 0 (v:=.int .i64 a.id) rfl
  have d1:=HG1.out.at_ 1 (v:=.int .i64 a.ph) rfl
  have d2:=HG1.out.at_ 2 (v:=.int .i64 a.qu) rfl
  have d3:=HG1.out.at_ 3 (v:=.int .i64 a.t) rfl
  have d4:=HG1.out.at_ 4 (v:=.int .i64 a.bal) rfl
  have d5:=HG1.out.at_ 5 (v:=.int .i64 a.abal) rfl
  have d6:=HG1.out.at_ 6 (v:=.int .i64 a.seen) rfl
  have d7:=HG1.out.at_ 7 (v:=.int .i64 a.age) rfl
  have d8:=HG1.out.at_ 8 (v:=.string a.pay) rfl
  have d9:=HG1.out.at_ 9 (v:=.slice a.A a.z.size a.c) rfl
  have z0:=qay HP1.out 0 (v:=.int .i64 b.id) rfl
  have y0:=qdd HP1.out 0
  have z1:=qay HP1.out 1 (v:=.int .i64 b.ph) rfl
  have y1:=qdd HP1.out 1
  have z2:=qay HP1.out 2 (v:=.int .i64 b.qu) rfl
  have y2:=qdd HP1.out 2
  have z3:=qay HP1.out 3 (v:=.int .i64 b.t) rfl
  have y3:=qdd HP1.out 3
  have z4:=qay HP1.out 4 (v:=.int .i64 b.bal) rfl
  have y4:=qdd HP1.out 4
  have z5:=qay HP1.out 5 (v:=.int .i64 b.abal) rfl
  have y5:=qdd HP1.out 5
  have z6:=qay HP1.out 6 (v:=.int .i64 b.seen) rfl
  have y6:=qdd HP1.out 6
  have z7:=qay HP1.out 7 (v:=.int .i64 b.age) rfl
  have y7:=qdd HP1.out 7
  have z8:=qay HP1.out 8 (v:=.string b.pay) rfl
  have y8:=qdd HP1.out 8
  have z9:=qay HP1.out 9 (v:=.slice b.A b.z.size b.c) rfl
  have y9:=qdd HP1.out 9
  go_wp2
  go_end0
  obtain ⟨W2,hW2⟩:∃ W,W=setL W1 p (encE a) 0:=⟨_,rfl⟩
  have HP2:Hid (W2.heap[p]?=some (.cells ea T (0,0))):=by show _=_;rw [hW2,←HEA.out,←setA_entB b a];exact qgk _ _ _ _ HP1.out
  have HQ2:Hid (W2.heap[q]?=some (.cells #[.int .i64 x] T' (0,0))):=by show _=_;rw [hW2];exact (qja (Ne.symm n3) _ _ _).trans HQ1.out
  have HB2:Hid (ButP p q w W2):=by show ButP _ _ _ _;rw [hW2];exact butP_setL HB1.out _
  simp only [encE,setL,Nat.zero_add,Nat.reduceAdd] at hW2
  rw [←hW2]
  exact ⟨rfl,HP2.out,HQ2.out,HB2.out⟩
end Go.Proofs.YtlkmagmdhopcjaaGreat
namespace Go.Proofs.YtlkmagmdhopcjaaGreat
open Go.RowKit Go.Sort Go.Lib
set_option maxRecDepth 100000
structure BoxR (w:World) (cs:Array Value) (T:TypeId) (W:World):Prop where
 b:Below w.heap.size w W
 row:W.heap[w.heap.size]?=some (.cells cs T (0,0))
theorem BoxR.init (w:World) (cs:Array Value) (t:TypeId):BoxR w cs t (w.alloc (.cells cs t)):=⟨bel1 w _,heap_alloc_new w _⟩
theorem BoxR.lt {w W:World} {cs:Array Value} {t:TypeId} (h:BoxR w cs t W):w.heap.size < W.heap.size:=by
 rcases Nat.lt_or_ge w.heap.size W.heap.size with g | g
 ·exact g
 ·have:=h.row
  rw [Array.getElem?_eq_none g] at this
  cases this
theorem BoxR.next {w W W':World} {cs:Array Value} {t:TypeId} (h:BoxR w cs t W) (hb:Below W.heap.size W W'):BoxR w cs t W' :=
 ⟨qaa h.b hb,(hb.block _ h.lt).trans h.row⟩
theorem BoxR.at_ {w W:World} {cs:Array Value} {t:TypeId} (h:BoxR w cs t W) (j:Nat) {v:Value} (hj:cs[j]?=some v):W.cell? ⟨w.heap.size,j,none⟩=some v:=by
 rw [cell_of_row W _ j cs t (0,0) h.row];exact hj
theorem BoxR.box {w W:World} {cs:Array Value} {t:TypeId} (h:BoxR w cs t W) {n:Nat} (hn:cs.size=n):qap W w.heap.size n=true:=qbl h.row hn
theorem BoxR.rowAt {w W:World} {cs:Array Value} {t:TypeId} (h:BoxR w cs t W):rowAt W w.heap.size=cs:=qcf h.row
attribute [local go_sem ↓] qak qai
attribute [local go_sem] qao qdn
def doneI (r:RP) (id:Int):Bool:=decide (1≤qbe id∧qbe id≤r.n) && qbx r.d.z[(qbe id).toNat - 1]!.z (qid id)
set_option maxHeartbeats 8000000 in
theorem qsq (r:RP) (id:Int) (w:World) (hD:RdK encW 1 w.heap.size w r.d.A r.d.z) (hDD:∀ i,i < r.d.z.size→RdK encR 2 w.heap.size w r.d.z[i]!.A r.d.z[i]!.z) (hn:(r.d.z.size:Int)=r.n) (hz:r.d.z.size≤1000) :
 Calls Tryz.prog 174 #[.agg (encP r).toArray,.int .i64 id] w fun e w'=>e=.returned (.bool (doneI r id))∧Below w.heap.size w w':=by
 have HX:=hI (BoxW.init w (encP r).toArray 35)
 have HRD:=hI hD
 have HRR:=hI hDD
 have HN:=hI hn
 obtain ⟨sf,hsf⟩:∃ s,qbe id=s:=⟨_,rfl⟩
 have HS:Hid (∀ W,Calls Tryz.prog 66 #[.int .i64 id] W fun e w'=>e=.returned (.int .i64 sf)∧W=w'):=fun W=>hsf ▸ qky id W
 have HDN:Hid (doneI r id=(decide (1≤sf∧sf≤r.n) && qbx r.d.z[sf.toNat - 1]!.z (qid id))):=by show _=_;unfold doneI;rw [hsf]
 clear hD hDD hn hsf
 simp only [encP] at HX ⊢
 by_cases h1:1≤sf
 ·by_cases h2:sf≤r.n
  ·have h1':decide (1≤sf)=true:=decide_eq_true h1
   have h2':decide (sf≤r.n)=true:=decide_eq_true h2
   obtain ⟨k,hk⟩:∃ k:Nat,sf=(k:Int) + 1:=⟨(sf - 1).toNat,by omega⟩
   have hkd:k < r.d.z.size:=by have:=HN.out;omega
   have hsub:sf - 1=(k:Int):=by omega
   have hwr:IntKind.i64.wrap (sf - 1)=(k:Int):=by rw [hsub];exact IntWalk.i64_in _ (by omega)
   have kd:(k:Int) < (r.d.z.size:Int):=by omega
   have HV:Hid (doneI r id=qbx r.d.z[k]!.z (qid id)):=by
    show _=_
    rw [HDN.out,decide_eq_true ⟨h1,h2⟩,Bool.true_and,show sf.toNat - 1=k by omega]
   obtain ⟨b2,off2,hA2,hbl2,f2⟩:=HRD.out.at_ (i:=k) (by omega)
   have g0:=f2 0 (by omega)
   have HR2:=hI (HRR.out k hkd)
   obtain ⟨u,hu⟩:∃ u,r.d.z[k]! = u:=⟨_,rfl⟩
   rw [hu] at g0 HR2 HV
   clear f2 hu HDN hk
   simp only [Nat.add_zero,Nat.mul_one,encW,RW.v,List.getElem!_cons_zero] at g0
   rw [hA2] at HX ⊢
   clear hA2
   go_enter Tryz.func174,Tryz.ntmps174
   go_wp2_with (go_at_call 66;refine (HS.out _).mono ?_;rintro _ _ ⟨rfl,rfl⟩)
   obtain ⟨w0,hw0⟩:∃ W,W=w.alloc (.cells #[.int .i64 r.n,.int .i64 r.f,.int .i64 r.self,.int .i64 r.clock,.int .i64 r.seq,.int .i64 r.floor,.int .i64 r.ticks,.slice r.e.A r.e.z.size r.e.c,.slice r.o.A r.o.z.size r.o.c,.slice r.k.A r.k.z.size r.k.c,.slice r.m.A r.m.z.size r.m.c,.slice r.fr.A r.fr.z.size r.fr.c,.slice (some ⟨b2,off2,none⟩) r.d.z.size r.d.c,.int .i64 r.lt,.int .i64 r.lid,.int .i64 r.count,.slice r.it.A r.it.z.size r.it.c,.slice r.ss.A r.ss.z.size r.ss.c] 35):=⟨_,rfl⟩
   rw [←hw0] at HX ⊢
   clear hw0
   have hlw:=HX.out.lt
   have a0:=fun p:ExtW w0=>p.cell (a:=⟨w.heap.size,0,none⟩) hlw (HX.out.at_ 0)
   have a12:=fun p:ExtW w0=>p.cell (a:=⟨w.heap.size,12,none⟩) hlw (HX.out.at_ 12)
   have a20:=fun p:ExtW w0=>p.cell (a:=⟨b2,off2 + k,none⟩) (Nat.lt_trans hbl2 hlw) ((HX.out.b.cell (p:=⟨b2,off2 + k,none⟩) hbl2).trans g0)
   have HC:=hI (fun p:ExtW w0=>qjp u.A u.c u.z (qid id) p.to (((HR2.out.below HX.out.b).mono HX.out.b.size |>.below p.h).mono p.h.size))
   obtain ⟨sq,hsq⟩:∃ s,qid id=s:=⟨_,rfl⟩
   have HSq:Hid (∀ W,Calls Tryz.prog 227 #[.int .i64 id] W fun e w'=>e=.returned (.int .i64 sq)∧W=w'):=fun W=>hsq ▸ Seq_any id W
   rw [hsq] at HC HV
   clear hsq
   refine qad (by kernel_rfl) (by kernel_rfl) ?_
   repeat (first | go_big_quiet_step ((first | (go_at_call 227;exact Calls.ext_same (HSq.out _)) | (go_at_call 71;exact Calls.ext_of (HC.out _)))) | quiet_step (fail))
   refine wpQuiet_nil ?_
   intro w' hw'
   obtain ⟨⟨W,hbW⟩,hw''⟩:=hw'
   have hw3:w'=W:=hw''
   subst hw3
   have HW:=hI (qaa HX.out.b hbW)
   clear hbW hw'' a0 a12 a20
   go_wp2
   go_ret
   exact ⟨qac HV.out.symm,HW.out⟩
  ·have h1':decide (1≤sf)=true:=decide_eq_true h1
   have h2':decide (sf≤r.n)=false:=decide_eq_false h2
   have HV:Hid (doneI r id=false):=by show _=_;rw [HDN.out,decide_eq_false (by omega)];rfl
   clear HDN
   go_enter Tryz.func174,Tryz.ntmps174
   go_wp2_with (go_at_call 66;refine (HS.out _).mono ?_;rintro _ _ ⟨rfl,rfl⟩)
   obtain ⟨w0,hw0⟩:∃ W,W=w.alloc (.cells #[.int .i64 r.n,.int .i64 r.f,.int .i64 r.self,.int .i64 r.clock,.int .i64 r.seq,.int .i64 r.floor,.int .i64 r.ticks,.slice r.e.A r.e.z.size r.e.c,.slice r.o.A r.o.z.size r.o.c,.slice r.k.A r.k.z.size r.k.c,.slice r.m.A r.m.z.size r.m.c,.slice r.fr.A r.fr.z.size r.fr.c,.slice r.d.A r.d.z.size r.d.c,.int .i64 r.lt,.int .i64 r.lid,.int .i64 r.count,.slice r.it.A r.it.z.size r.it.c,.slice r.ss.A r.ss.z.size r.ss.c] 35):=⟨_,rfl⟩
   rw [←hw0] at HX ⊢
   clear hw0
   have hlw:=HX.out.lt
   have a0:=fun p:ExtW w0=>p.cell (a:=⟨w.heap.size,0,none⟩) hlw (HX.out.at_ 0)
   refine qad (by kernel_rfl) (by kernel_rfl) ?_
   repeat (first | go_big_quiet_step (fail) | quiet_step (fail))
   refine wpQuiet_nil ?_
   intro w' hw'
   obtain ⟨⟨W,hbW⟩,hw''⟩:=hw'
   have hw3:w'=W:=hw''
   subst hw3
   have HW:=hI (qaa HX.out.b hbW)
   clear hbW hw'' a0
   go_wp2
   go_ret
   exact ⟨qac HV.out.symm,HW.out⟩
 ·have h1':decide (1≤sf)=false:=decide_eq_false h1
  have HV:Hid (doneI r id=false):=by show _=_;rw [HDN.out,decide_eq_false (by omega)];rfl
  clear HDN
  go_enter Tryz.func174,Tryz.ntmps174
  go_wp2_with (go_at_call 66;refine (HS.out _).mono ?_;rintro _ _ ⟨rfl,rfl⟩)
  obtain ⟨w0,hw0⟩:∃ W,W=w.alloc (.cells #[.int .i64 r.n,.int .i64 r.f,.int .i64 r.self,.int .i64 r.clock,.int .i64 r.seq,.int .i64 r.floor,.int .i64 r.ticks,.slice r.e.A r.e.z.size r.e.c,.slice r.o.A r.o.z.size r.o.c,.slice r.k.A r.k.z.size r.k.c,.slice r.m.A r.m.z.size r.m.c,.slice r.fr.A r.fr.z.size r.fr.c,.slice r.d.A r.d.z.size r.d.c,.int .i64 r.lt,.int .i64 r.lid,.int .i64 r.count,.slice r.it.A r.it.z.size r.it.c,.slice r.ss.A r.ss.z.size r.ss.c] 35):=⟨_,rfl⟩
  rw [←hw0] at HX ⊢
  clear hw0
  have hlw:=HX.out.lt
  refine qad (by kernel_rfl) (by kernel_rfl) ?_
  repeat (first | go_big_quiet_step (fail) | quiet_step (fail))
  refine wpQuiet_nil ?_
  intro w' hw'
  obtain ⟨⟨W,hbW⟩,hw''⟩:=hw'
  have hw3:w'=W:=hw''
  subst hw3
  have HW:=hI (qaa HX.out.b hbW)
  clear hbW hw''
  go_wp2
  go_ret
  exact ⟨qac HV.out.symm,HW.out⟩
end Go.Proofs.YtlkmagmdhopcjaaGreat
