/- Texts that the law leans on. -/
import Derived.Deep.MidRow
import Derived.Laws.CopyRow
import Derived.Test.YtlkmagmdhopcjaaGreatMRgS
import Derived.Test.YtlkmagmdhopcjaaGreatMStV
import Derived.Test.YtlkmagmdhopcjaaGreatMGoC
namespace Go.Proofs.YtlkmagmdhopcjaaGreat
open Go.RowKit Go.Sort Go.Lib
set_option maxRecDepth 100000
attribute [local go_sem ↓] qak qai qau qdk qed
attribute [local go_sem] qao qaj qah qaq qbd qbf
def subC (c:Array Value) (o:Nat) (cs:Array Value):Array Value:=(c.toList.take o ++ cs.toList ++ c.toList.drop (o + cs.size)).toArray
theorem qlx {c cs:Array Value} {o:Nat} (h:o + cs.size≤c.size):(subC c o cs).size=c.size:=by
 unfold subC
 simp
 omega
theorem qtd {c cs:Array Value} {o:Nat} (h:o + cs.size≤c.size) {j:Nat} (hj:j < cs.size):(subC c o cs)[o + j]?=cs[j]?:=by
 unfold subC
 rw [List.getElem?_toArray,List.append_assoc,List.getElem?_append_right (by simp;omega),List.getElem?_append_left (by simp;omega)]
 simp
 congr 1
 omega
theorem qph {c cs:Array Value} {o:Nat} (h:o + cs.size≤c.size) {i:Nat} (hi:i < o∨o + cs.size≤i):(subC c o cs)[i]?=c[i]?:=by
 unfold subC
 rw [List.getElem?_toArray]
 rcases hi with hi | hi
 ·rw [List.append_assoc,List.getElem?_append_left (by simp;omega)]
  simp [hi]
 ·rw [List.getElem?_append_right (by simp;omega)]
  simp
  congr 1
  omega
theorem qpi (W:World) (g o:Nat) (cs:Array Value) (h:qap W g 54=true) (ho:o + 18≤54) (hc:cs.size=18) (h1:qbt cs=true) :
 (qgx 35 (.pointer (some ⟨g,o,none⟩)) (.agg cs)).run Tryz.prog W=.ok () (W.setRow g (subC (rowAt W g) o cs)):=by
 obtain ⟨t,h2,h3⟩:=qey h
 have h1':cs.all (·.oneCell')=true:=h1
 have:=run_storeCells_at (P:=Tryz.prog) g o t cs.toList 0 _ W h2 (by simp;omega) (fun v hv=>by
  rw [Array.all_eq_true] at h1'
  obtain ⟨i,hi,rfl⟩:=List.getElem_of_mem hv
  simpa using h1' i (by simpa using hi))
 simp only [qgx,Instr.storeAt,Instr.sureAddr,Sem.run_bind,Sem.run_pure,Result.andThen]
 cases hq:Tryz.prog.info? 35 with
 | none=>exact absurd (congrArg Option.isSome hq) (by decide +kernel)
 | some i =>
   have hs:cs.size=i.size:=by
    have:(Tryz.prog.info? 35).map (·.size)=some 18:=by kernel_rfl
    simp [hq] at this
    omega
   simp only [Nat.add_zero] at this
   simp [storeVar,sizeOf,typeInfo,hq,Value.cells,hs,this,subC]
theorem qqz (W:World) (g o:Nat) (cs:Array Value) (hc:cs.size=18) (h:∀ j,j < 18→W.cell? ⟨g,o + j,none⟩=cs[j]?) :
 (qmz 35 (.pointer (some ⟨g,o,none⟩))).run Tryz.prog W=.ok (.agg cs) W:=by
 have:=run_loadAt_mid (P:=Tryz.prog) W g o 35 cs.toList _ (fun j v hv=>by
  have hj:=(List.getElem?_eq_some_iff.1 hv).1
  rw [h j (by simpa [hc] using hj)]
  simpa using hv) Tryz.underlying35 rfl (by rw [Array.length_toList,hc];kernel_rfl)
 simpa [qmz] using this
def storeL (t:TypeId) (v x:Value):Sem Unit:=Instr.storeAt t v x
theorem qpj (ρ:Operand→Value) (dst:Option Tmp) (x y:Operand) (ty:TypeId) (pos:String) (after:Array Edge) (guard:Option (Nat×Bool)) :
 execOp ρ { dst,op:=.store 54 x y,type:=ty,pos,after,guard }=(do storeL 54 (ρ x) (ρ y);pure .skip):=rfl
theorem qxg (W:World) (g:Nat) (hg:W.heap.size=g):(storeL 54 (.pointer (some ⟨g,0,none⟩)) (.agg #[.int .i64 0,.int .i64 0,.int .i64 0,.int .i64 0,.int .i64 0,.int .i64 0,.int .i64 0,.slice none 0 0,.slice none 0 0,.slice none 0 0,.slice none 0 0,.slice none 0 0,.slice none 0 0,.int .i64 0,.int .i64 0,.int .i64 0,.slice none 0 0,.slice none 0 0,.int .i64 0,.int .i64 0,.int .i64 0,.int .i64 0,.int .i64 0,.int .i64 0,.int .i64 0,.slice none 0 0,.slice none 0 0,.slice none 0 0,.slice none 0 0,.slice none 0 0,.slice none 0 0,.int .i64 0,.int .i64 0,.int .i64 0,.slice none 0 0,.slice none 0 0,.int .i64 0,.int .i64 0,.int .i64 0,.int .i64 0,.int .i64 0,.int .i64 0,.int .i64 0,.slice none 0 0,.slice none 0 0,.slice none 0 0,.slice none 0 0,.slice none 0 0,.slice none 0 0,.int .i64 0,.int .i64 0,.int .i64 0,.slice none 0 0,.slice none 0 0])).run Tryz.prog (W.alloc (.cells #[.int .i64 0,.int .i64 0,.int .i64 0,.int .i64 0,.int .i64 0,.int .i64 0,.int .i64 0,.slice none 0 0,.slice none 0 0,.slice none 0 0,.slice none 0 0,.slice none 0 0,.slice none 0 0,.int .i64 0,.int .i64 0,.int .i64 0,.slice none 0 0,.slice none 0 0,.int .i64 0,.int .i64 0,.int .i64 0,.int .i64 0,.int .i64 0,.int .i64 0,.int .i64 0,.slice none 0 0,.slice none 0 0,.slice none 0 0,.slice none 0 0,.slice none 0 0,.slice none 0 0,.int .i64 0,.int .i64 0,.int .i64 0,.slice none 0 0,.slice none 0 0,.int .i64 0,.int .i64 0,.int .i64 0,.int .i64 0,.int .i64 0,.int .i64 0,.int .i64 0,.slice none 0 0,.slice none 0 0,.slice none 0 0,.slice none 0 0,.slice none 0 0,.slice none 0 0,.int .i64 0,.int .i64 0,.int .i64 0,.slice none 0 0,.slice none 0 0] 54))=.ok () (W.alloc (.cells #[.int .i64 0,.int .i64 0,.int .i64 0,.int .i64 0,.int .i64 0,.int .i64 0,.int .i64 0,.slice none 0 0,.slice none 0 0,.slice none 0 0,.slice none 0 0,.slice none 0 0,.slice none 0 0,.int .i64 0,.int .i64 0,.int .i64 0,.slice none 0 0,.slice none 0 0,.int .i64 0,.int .i64 0,.int .i64 0,.int .i64 0,.int .i64 0,.int .i64 0,.int .i64 0,.slice none 0 0,.slice none 0 0,.slice none 0 0,.slice none 0 0,.slice none 0 0,.slice none 0 0,.int .i64 0,.int .i64 0,.int .i64 0,.slice none 0 0,.slice none 0 0,.int .i64 0,.int .i64 0,.int .i64 0,.int .i64 0,.int .i64 0,.int .i64 0,.int .i64 0,.slice none 0 0,.slice none 0 0,.slice none 0 0,.slice none 0 0,.slice none 0 0,.slice none 0 0,.int .i64 0,.int .i64 0,.int .i64 0,.slice none 0 0,.slice none 0 0] 54)):=by
 subst hg
 exact run_storeAt_new W 54 _ _ (by kernel_rfl) rfl (by kernel_rfl)
theorem qte (W:World) (g o:Nat) (cs:Array Value) (hc:cs.size=10) (h:∀ j,j < 10→W.cell? ⟨g,o + j,none⟩=cs[j]?) :
 (qsm 58 (.pointer (some ⟨g,o,none⟩))).run Tryz.prog W=.ok (.agg cs) W:=by
 have:=run_loadAt_mid (P:=Tryz.prog) W g o 58 cs.toList _ (fun j v hv=>by
  have hj:=(List.getElem?_eq_some_iff.1 hv).1
  rw [h j (by simpa [hc] using hj)]
  simpa using hv) Tryz.underlying58 rfl (by rw [Array.length_toList,hc];kernel_rfl)
 simpa [qsm] using this
theorem qtf {W W':World} (hb:Below W.heap.size W W') {g:Nat} (hg:g < W.heap.size) (cs:Array Value):Below (W.setRow g cs).heap.size (W.setRow g cs) (W'.setRow g cs):=by
 have h1:=hb.size
 refine ⟨hb.os,hb.tape,hb.output,by simp;omega,fun j hj=>?_⟩
 rw [setRow_size] at hj
 by_cases e:j=g
 ·subst e
  have:=hb.block j hg
  unfold World.setRow
  simp only [Array.getElem?_modify,this]
 ·rw [setRow_other _ _ _ _ e,setRow_other _ _ _ _ e]
  exact hb.block j hj
def FarP (g:Nat) (W:World) (s:RP):Prop:=∀ cs,RdP (W.setRow g cs) s
section
variable {g:Nat} {w W W':World} {s r:RP} {lc:Array Value} {T:TypeId}
theorem FarP.next (h:FarP g W s) (hg:g < W.heap.size) (hb:Below W.heap.size W W'):FarP g W' s:=fun cs=>(h cs).below (qtf hb hg cs)
theorem FarP.row (h:FarP g W s) (c:Array Value):FarP g (W.setRow g c) s:=fun cs=>by rw [setRow_setRow];exact h cs
theorem FarP.rd (h:FarP g W s) (hl:BoxG w g lc T W):RdP W s:=by
 have:=h lc
 rwa [setRow_self W g lc T (0,0) hl.row] at this
theorem FarP.of_sep {B:Nat} {w1:World} (h:SepR r B w1 s) (hr:FarP g w1 r) (hg:g < B):FarP g w1 s:=fun cs=>h _ (hr cs) (fun j h1 _=>setRow_other _ _ _ _ (by omega)) (by simp)
theorem FarP.of_below (h:RdP w s) (hb:Below w.heap.size w W) (hg:w.heap.size≤g):FarP g W s:=fun cs=>h.below (qbk hb hg cs)
end
structure MkW (w:World) (cr cm lc:Array Value) (g:Nat) (T:TypeId) (W:World):Prop where
 X:BoxRM w cr cm W
 L:BoxG w g lc T W
 h:w.heap.size + 1 < g
section
variable {w W W':World} {cr cm lc:Array Value} {g:Nat} {T:TypeId}
theorem MkW.next (h:MkW w cr cm lc g T W) (hb:Below W.heap.size W W'):MkW w cr cm lc g T W':=⟨h.X.next hb,h.L.next hb,h.h⟩
theorem MkW.put (h:MkW w cr cm lc g T W) (c:Array Value):MkW w cr cm c g T (W.setRow g c):=⟨⟨h.X.r.rowTo (by have:=h.h;omega) (by have:=h.h;omega),h.X.m.rowTo (by have:=h.h;omega) (by have:=h.h;omega)⟩,h.L.rowOn (by have:=h.h;omega),h.h⟩
theorem MkW.b (h:MkW w cr cm lc g T W):Below w.heap.size w W:=h.X.r.b
theorem MkW.all (h:MkW w cr cm lc g T W) (h0:cr.size=18) (h1:cm.size=14) (h2:lc.size=54) :
 qap W w.heap.size 18=true∧rowAt W w.heap.size=cr∧qap W (w.heap.size + 1) 14=true∧rowAt W (w.heap.size + 1)=cm∧qap W g 54=true∧rowAt W g=lc :=
 ⟨h.X.r.box h0,h.X.r.rowAt,h.X.m.box h1,h.X.m.rowAt,h.L.box h2,h.L.rowAt⟩
end
attribute [local go_sem ↓] qpj
attribute [local go_sem] qxg qpi qhp
structure L3 (lc:Array Value) (S:Nat→RP):Prop where
 sz:lc.size=54
 at_:∀ k,k < 3→∀ j,j < 18→lc[k * 18 + j]?=(encP (S k)).toArray[j]?
set_option maxHeartbeats 16000000 in
theorem qra (r:RP) (m:PM) (t:Int) (w:World) (hr:RdP w r) (ra:RdK encA 2 w.heap.size w m.aA m.ats) (rm:RdI w.heap.size w m.mA m.mks) :
 Calls Tryz.prog 5 #[.agg (encP r).toArray,.agg (msgC m),.int .i64 t] w fun e w'=>e=.returned (.bool true)∧Below w.heap.size w w':=by
 have HF1:Hid (∀ W,Below w.heap.size w W→Calls Tryz.prog 6 #[.agg (encP r).toArray] W fun e w'=>e=.returned (.bool (fewR r))∧Below W.heap.size W w'):=fun W hb=>few25_any r W (hr.below hb)
 have HF2:Hid (∀ W,Calls Tryz.prog 7 #[.agg (msgC m)] W fun e w'=>e=.returned (.bool (qih m))∧Below W.heap.size W w'):=fun W=>Few_any m W
 have AW:Hid (∀ W:World,Calls Tryz.prog 8 #[] W fun e w'=>e=.returned (.bool true)∧Below W.heap.size W w'):=hI aw29_any
 have HR:=hI hr
 have HRAM:Hid (RdK encA 2 w.heap.size w m.aA m.ats∧RdI w.heap.size w m.mA m.mks):=⟨ra,rm⟩
 obtain ⟨g1,hg1⟩:∃ g,fewR r=g:=⟨_,rfl⟩
 obtain ⟨g2,hg2⟩:∃ g,qih m=g:=⟨_,rfl⟩
 rw [hg1] at HF1
 rw [hg2] at HF2
 have HG1:=hI hg1
 have HG2:=hI hg2
 clear hg1 hg2 hr ra rm
 obtain ⟨cr,hcr⟩:∃ c,c=(encP r).toArray:=⟨_,rfl⟩
 obtain ⟨hszr,honer⟩:=rowP hcr
 obtain ⟨cm,hcm⟩:∃ cm,cm=msgC m:=⟨_,rfl⟩
 have hsm:cm.size=14:=by rw [hcm];rfl
 have HCR:=hI hcr
 have HCM:=hI hcm
 have HQ0:Hid (cr[0]?=some (.int .i64 r.n)):=by show _=_;rw [hcr];rfl
 have HQ7:Hid (cr[7]?=some (.slice r.e.A r.e.z.size r.e.c)):=by show _=_;rw [hcr];rfl
 have HQ10:Hid (cr[10]?=some (.slice r.m.A r.m.z.size r.m.c)):=by show _=_;rw [hcr];rfl
 have HQ11:Hid (cr[11]?=some (.slice r.fr.A r.fr.z.size r.fr.c)):=by show _=_;rw [hcr];rfl
 rw [←hcr] at HF1
 rw [←hcm] at HF2
 have HC:Hid (∀ W,Below w.heap.size w W→fewR r=true→Calls Tryz.prog 15 #[.agg cr] W fun e w'=>e=.returned (.int .i64 (repE r))∧Below W.heap.size W w'):=fun W hb hf=>by
  rw [HCR.out]
  exact qbh r W (HR.out.below hb) (qpn.1 hf).c
 have hgoal:∀ x y:Array Value,cr=x→cm=y→Calls Tryz.prog 5 #[.agg x,.agg y,.int .i64 t] w fun e w'=>e=.returned (.bool true)∧Below w.heap.size w w':=by
  rintro _ _ rfl rfl
  simp only [encP] at hcr
  simp only [msgC] at hcm
  rw [hcr,hcm]
  go_enter Tryz.func5,Tryz.ntmps5
  rw [←hcr,←hcm]
  clear hcr hcm
  have HX:=hI (BoxRM.init w cr cm)
  have x1:=HX.out.r.box hszr
  have x2:=HX.out.r.rowAt
  have x3:=HX.out.m.box hsm
  have x4:=HX.out.m.rowAt
  obtain ⟨b3,hb3⟩:∃ b,decide ((20:Int) < (r.e.z.size:Int))=b:=⟨_,rfl⟩
  obtain ⟨b4,hb4⟩:∃ b,chkR r=b:=⟨_,rfl⟩
  have HB3:Hid (decide ((20:Int) < (r.e.z.size:Int))=b3):=hI hb3
  have HB4:=hI hb4
  have hcase:(g1=true∧g2=true∧b3=false∧b4=true)∨g1=false∨(g1=true∧g2=false)∨(g1=true∧g2=true∧b3=true)∨(g1=true∧g2=true∧b3=false∧b4=false):=by
   cases g1 <;> cases g2 <;> cases b3 <;> cases b4 <;> simp
  have hre:repE r=if b4=true then 0 else 2:=by rw [←hb4];rfl
  rw [hre] at HC
  clear hb4 hre
  rcases hcase with ⟨rfl,rfl,rfl,rfl⟩ | rfl | ⟨rfl,rfl⟩ | ⟨rfl,rfl,rfl⟩ | ⟨rfl,rfl,rfl,rfl⟩
  rotate_left
  all_goals try (
   try (have HC':=HC;rw [if_neg (by decide)] at HC)
   go_wp2_with (first
    | (go_at_call 6;refine (HF1.out _ HX.out.r.b).mono ?_;rintro _ w1 ⟨rfl,hb⟩;have HX1:=hI (HX.out.next hb);clear hb x1 x2 x3 x4;have x3:=HX1.out.m.box hsm;have x4:=HX1.out.m.rowAt)
    | (go_at_call 7;refine (HF2.out _).mono ?_;rintro _ w2 ⟨rfl,hb⟩;have HX2:=hI (HX1.out.next hb);clear hb x3 x4;have x1:=HX2.out.r.box hszr;have x2:=HX2.out.r.rowAt;have x3:=HX2.out.m.box hsm;have x4:=HX2.out.m.rowAt;have c7:=HX2.out.r.at_ 7 HQ7.out)
    | (go_at_call 15;refine (HC.out _ HX2.out.r.b HG1.out).mono ?_;rintro _ w3 ⟨rfl,hb⟩;have HX3:=hI (HX2.out.next hb);clear hb x1 x2 x3 x4 c7)
    | (go_at_call 8;refine (AW.out _).mono ?_;rintro _ w9 ⟨rfl,hb⟩;first | have HXa:=hI (HX3.out.next hb) | have HXa:=hI (HX2.out.next hb) | have HXa:=hI (HX1.out.next hb)))
   go_ret
   exact ⟨rfl,HXa.out.r.b⟩)
  rw [if_pos rfl] at HC
  have FP:=hI (qpn.1 HG1.out)
  have HM:=hI (fewM_rd HG2.out HRAM.out.1 HRAM.out.2)
  have HT:Hid (∀ W,Below w.heap.size w W→Calls Tryz.prog 16 #[.agg cr] W fun e w'=>(∃ (s:RP) (c:Array Value) (y:Value),e=.returned (.tuple #[.agg c,y])∧c=(encP s).toArray∧MkG r s∧SepR r W.heap.size w' s)∧Below W.heap.size W w'):=fun W hb=>by
   rw [HCR.out]
   exact (qyk r W (HR.out.below hb) FP.out.m').mono fun e w' ⟨⟨s,x,h1,h2,h3,h4⟩,h5⟩=>⟨⟨s,_,_,h1,rfl,h2.mkg HB4.out FP.out.m',h3⟩,h5⟩
  have HP1:Hid (∀ W,Below w.heap.size w W→Calls Tryz.prog 9 #[.agg cr,.agg cm] W fun e w'=>(∃ (s:RP) (c:Array Value) (y:Value),e=.returned (.tuple #[.agg c,y])∧c=(encP s).toArray∧MkG r s∧SepR r W.heap.size w' s)∧Below W.heap.size W w'):=fun W hb=>(onPrL (qqt r m W (HR.out.below hb) (HM.out.next hb) FP.out) HCR.out HCM.out).mono fun e w' ⟨⟨s,c,h1,h2,h3,h4⟩,h5⟩=>⟨⟨s,c,_,h1,h2,h3.mkg HB4.out FP.out,h4⟩,h5⟩
  have HN1:Hid (∀ W,Below w.heap.size w W→Calls Tryz.prog 13 #[.agg cr,.int .i64 t] W fun e w'=>(∃ (s:RP) (c:Array Value),e=.returned (.agg c)∧c=(encP s).toArray∧MkG r s∧SepR r W.heap.size w' s)∧Below W.heap.size W w'):=fun W hb=>(frontL (qol r t W (HR.out.below hb) FP.out.c) HCR.out).mono fun e w' ⟨⟨s,c,h1,h2,h3,h4⟩,h5⟩=>⟨⟨s,c,h1,h2,h3.mkg HB4.out FP.out.c,h4⟩,h5⟩
  have HMK:Hid (∀ (s:RP) (c:Array Value),c=(encP s).toArray→chkR s=true→FewC s→∀ W,RdP W s→Calls Tryz.prog 18 #[.agg c] W fun e w'=>(∃ x:RW Int,e=.returned (.slice x.A x.z.size x.c)∧x.z=qcy s.k.z∧RdJ w' x)∧Below W.heap.size W w'):=fun s c h1 h2 h3 W h4=>by
   rw [h1]
   exact (qix s W h4 h3).mono fun e w' ⟨⟨x,h5,h6,h7⟩,h8⟩=>⟨⟨x,h5,by rw [h6];unfold qeh;rw [if_pos h2],h7⟩,h8⟩
  go_upto_region 3 with (first
   | (go_at_call 6;refine (HF1.out _ HX.out.r.b).mono ?_;rintro _ w1 ⟨rfl,hb⟩;have HX1:=hI (HX.out.next hb);clear hb x1 x2 x3 x4;have x3:=HX1.out.m.box hsm;have x4:=HX1.out.m.rowAt)
   | (go_at_call 7;refine (HF2.out _).mono ?_;rintro _ w2 ⟨rfl,hb⟩;have HX2:=hI (HX1.out.next hb);clear hb x3 x4;have x1:=HX2.out.r.box hszr;have x2:=HX2.out.r.rowAt;have x3:=HX2.out.m.box hsm;have x4:=HX2.out.m.rowAt;have c7:=HX2.out.r.at_ 7 HQ7.out)
   | (go_at_call 15;refine (HC.out _ HX2.out.r.b HG1.out).mono ?_;rintro _ w3 ⟨rfl,hb⟩;have HX3:=hI (HX2.out.next hb);clear hb x1 x2 x3 x4 c7))
  clear HF1 HF2 HC HX HX1 HX2 hb3
  go_upto_region 4 with fail
  have HK4:Hid (∃ lc,lc.size=54∧MkW w cr cm lc w3.heap.size 54 (w3.alloc (.cells #[.int .i64 0,.int .i64 0,.int .i64 0,.int .i64 0,.int .i64 0,.int .i64 0,.int .i64 0,.slice none 0 0,.slice none 0 0,.slice none 0 0,.slice none 0 0,.slice none 0 0,.slice none 0 0,.int .i64 0,.int .i64 0,.int .i64 0,.slice none 0 0,.slice none 0 0,.int .i64 0,.int .i64 0,.int .i64 0,.int .i64 0,.int .i64 0,.int .i64 0,.int .i64 0,.slice none 0 0,.slice none 0 0,.slice none 0 0,.slice none 0 0,.slice none 0 0,.slice none 0 0,.int .i64 0,.int .i64 0,.int .i64 0,.slice none 0 0,.slice none 0 0,.int .i64 0,.int .i64 0,.int .i64 0,.int .i64 0,.int .i64 0,.int .i64 0,.int .i64 0,.slice none 0 0,.slice none 0 0,.slice none 0 0,.slice none 0 0,.slice none 0 0,.slice none 0 0,.int .i64 0,.int .i64 0,.int .i64 0,.slice none 0 0,.slice none 0 0] 54))):=hI ⟨_,rfl,HX3.out.next (bel1 w3 _),BoxG.newB HX3.out.r.b _ _,by have:=(HX3.out.m.lt);exact this⟩
  obtain ⟨lc,hlc,hk4⟩:=HK4.out
  have HBW:Hid (Below w.heap.size w w3):=hI HX3.out.r.b
  obtain ⟨g,hg⟩:∃ N,w3.heap.size=N:=⟨_,rfl⟩
  rw [hg] at hk4 ⊢
  have HK:=hI hk4
  clear HK4 hk4 hg HX3 HBW
  generalize w3.alloc (.cells #[.int .i64 0,.int .i64 0,.int .i64 0,.int .i64 0,.int .i64 0,.int .i64 0,.int .i64 0,.slice none 0 0,.slice none 0 0,.slice none 0 0,.slice none 0 0,.slice none 0 0,.slice none 0 0,.int .i64 0,.int .i64 0,.int .i64 0,.slice none 0 0,.slice none 0 0,.int .i64 0,.int .i64 0,.int .i64 0,.int .i64 0,.int .i64 0,.int .i64 0,.int .i64 0,.slice none 0 0,.slice none 0 0,.slice none 0 0,.slice none 0 0,.slice none 0 0,.slice none 0 0,.int .i64 0,.int .i64 0,.int .i64 0,.slice none 0 0,.slice none 0 0,.int .i64 0,.int .i64 0,.int .i64 0,.int .i64 0,.int .i64 0,.int .i64 0,.int .i64 0,.slice none 0 0,.slice none 0 0,.slice none 0 0,.slice none 0 0,.slice none 0 0,.slice none 0 0,.int .i64 0,.int .i64 0,.int .i64 0,.slice none 0 0,.slice none 0 0] 54)=w4 at HK ⊢
  obtain ⟨x1,x2,x3,x4,l1,l2⟩:=HK.out.all hszr hsm hlc
  go_upto_region 5 with (go_at_call 16;refine (HT.out _ HK.out.b).mono ?_;rintro _ w5 ⟨⟨a,ca,y,rfl,hca,hga,hsa⟩,hb⟩;have HK5:=hI (HK.out.next hb);have HSA:=hI hsa;have HCA:=hI hca;have HGA:=hI hga;obtain ⟨hsza,honea⟩:=rowP hca;clear hb hca hga hsa x1 x2 x3 x4 l1 l2;have l1:=HK5.out.L.box hlc;have l2:=HK5.out.L.rowAt)
  have HK6:=hI (HK5.out.put (subC lc 0 ca))
  have HFA:Hid (FarP g (w5.setRow g (subC lc 0 ca)) a):=hI ((FarP.of_sep HSA.out (FarP.of_below HR.out HK5.out.b (by have:=HK5.out.h;omega)) HK.out.L.lt).row _)
  have hlc2:(subC lc 0 ca).size=54:=(qlx (by omega)).trans hlc
  generalize w5.setRow g (subC lc 0 ca)=w6 at HK6 HFA ⊢
  clear HK5 HSA HK l1 l2
  obtain ⟨x1,x2,x3,x4,l1,l2⟩:=HK6.out.all hszr hsm hlc2
  go_upto_region 6 with (go_at_call 9;refine (HP1.out _ HK6.out.b).mono ?_;rintro _ w7 ⟨⟨b,cb,y2,rfl,hcb,hgb,hsb⟩,hb⟩;have HK7:=hI (HK6.out.next hb);have HFA7:=hI (HFA.out.next HK6.out.L.lt hb);have HSB:=hI hsb;have HCB:=hI hcb;have HGB:=hI hgb;obtain ⟨hszb,honeb⟩:=rowP hcb;clear hb hcb hgb hsb x1 x2 x3 x4 l1 l2;have l1:=HK7.out.L.box hlc2;have l2:=HK7.out.L.rowAt)
  have HK8:=hI (HK7.out.put (subC (subC lc 0 ca) 18 cb))
  have HFB:Hid (FarP g (w7.setRow g (subC (subC lc 0 ca) 18 cb)) b):=hI ((FarP.of_sep HSB.out (FarP.of_below HR.out HK7.out.b (by have:=HK7.out.h;omega)) HK6.out.L.lt).row _)
  have HFA8:Hid (FarP g (w7.setRow g (subC (subC lc 0 ca) 18 cb)) a):=hI (HFA7.out.row _)
  have hlc3:(subC (subC lc 0 ca) 18 cb).size=54:=(qlx (by omega)).trans hlc2
  generalize w7.setRow g (subC (subC lc 0 ca) 18 cb)=w8 at HK8 HFB HFA8 ⊢
  clear HK7 HSB HK6 HFA HFA7 l1 l2
  obtain ⟨x1,x2,x3,x4,l1,l2⟩:=HK8.out.all hszr hsm hlc3
  go_upto_region 7 with (go_at_call 13;refine (HN1.out _ HK8.out.b).mono ?_;rintro _ w9 ⟨⟨c,cc,rfl,hcc,hgc,hsc⟩,hb⟩;have HK9:=hI (HK8.out.next hb);have HFA9:=hI (HFA8.out.next HK8.out.L.lt hb);have HFB9:=hI (HFB.out.next HK8.out.L.lt hb);have HSC:=hI hsc;have HCC:=hI hcc;have HGC:=hI hgc;obtain ⟨hszc,honec⟩:=rowP hcc;clear hb hcc hgc hsc x1 x2 x3 x4 l1 l2;have l1:=HK9.out.L.box hlc3;have l2:=HK9.out.L.rowAt)
  obtain ⟨ld,hld⟩:∃ l,subC (subC (subC lc 0 ca) 18 cb) 36 cc=l:=⟨_,rfl⟩
  rw [hld]
  have hld0:ld.size=54:=by rw [←hld];exact (qlx (by omega)).trans hlc3
  obtain ⟨S,hS⟩:∃ S:Nat→RP,S=fun k=>if k=0 then a else if k=1 then b else c:=⟨_,rfl⟩
  have HL3:Hid (L3 ld S):=hI ⟨hld0,fun k hk j hj=>by
   rw [←hld,hS]
   have hk':k=0∨k=1∨k=2:=by omega
   rcases hk' with rfl | rfl | rfl
   ·rw [qph (by omega) (by omega),qph (by omega) (by omega),qtd (o:=0) (by omega) (by omega),HCA.out];rfl
   ·rw [qph (by omega) (by omega),qtd (o:=18) (by omega) (by omega),HCB.out];rfl
   ·rw [qtd (o:=36) (by omega) (by omega),HCC.out];rfl⟩
  have HK10:=hI (HK9.out.put ld)
  have HSM:Hid (∀ k,k < 3→MkG r (S k)):=hI fun k hk=>by
   rw [hS]
   have hk':k=0∨k=1∨k=2:=by omega
   rcases hk' with rfl | rfl | rfl
   ·exact HGA.out
   ·exact HGB.out
   ·exact HGC.out
  have HFS:Hid (∀ k,k < 3→FarP g (w9.setRow g ld) (S k)):=hI fun k hk=>by
   rw [hS]
   have hk':k=0∨k=1∨k=2:=by omega
   rcases hk' with rfl | rfl | rfl
   ·exact HFA9.out.row _
   ·exact HFB9.out.row _
   ·exact (FarP.of_sep HSC.out (FarP.of_below HR.out HK9.out.b (by have:=HK9.out.h;omega)) HK8.out.L.lt).row _
  generalize w9.setRow g ld=wA at HK10 HFS ⊢
  have HRS:Hid (∀ k,k < 3→RdP wA (S k)):=hI fun k hk=>(HFS.out k hk).rd HK10.out.L
  clear HK9 HSC HK8 HFA8 HFA9 HFB HFB9 HFS l1 l2 hld hS HCA HCB HCC HGA HGB HGC hszc honec hszb honeb hsza honea hlc hlc2 hlc3 HT HP1 HN1
  obtain ⟨x1,x2,x3,x4,l1,l2⟩:=HK10.out.all hszr hsm hld0
  have HWM:Hid (∀ W,RdP W r→Calls Tryz.prog 18 #[.agg cr] W fun e w'=>(∃ x:RW Int,e=.returned (.slice x.A x.z.size x.c)∧x.z=qcy r.k.z∧RdJ w' x)∧Below W.heap.size W w'):=fun W h=>HMK.out r cr HCR.out HB4.out FP.out.c W h
  go_upto_region 9 with (go_at_call 18;refine (HWM.out _ (HR.out.below HK10.out.b)).mono ?_;rintro _ wB ⟨⟨x,rfl,hxz,hxr⟩,hb⟩;have HKB:=hI (HK10.out.next hb);have HRB:Hid (∀ k,k < 3→RdP wB (S k)):=hI (fun k hk=>(HRS.out k hk).below hb);have HXZ:=hI hxz;have HXR:=hI hxr;clear hb hxz hxr x1 x2 x3 x4 l1 l2)
  clear HK10 HRS HWM
  have HCKR:=qgc HB4.out
  have hN:=(qet HB4.out).1
  have HSZ:=hI HCKR
  clear HCKR
  go_loopw [9,10,11,12,13,14,15,16,17] (fun v _ _ _ _ _ _ _ _ wr=>∃ k:Nat,v=.int .i64 k∧k≤3∧Hid (Below wB.heap.size wB wr)) (fun v _ _ _ _ _ _ _ _ _=>3 - (intOf v).toNat)
  case atStart=>exact ⟨0,rfl,by omega,hI (Below.refl _ _)⟩
  case round =>
   obtain ⟨k,rfl,hk,HB⟩:=hrel
   by_cases hlt:k < 3
   ·have kz:(k:Int) < 3:=by omega
    have HKr:=hI (HKB.out.next HB.out)
    obtain ⟨s,hs⟩:∃ s,S k=s:=⟨_,rfl⟩
    have HMs:Hid (MkG r s):=hI (by rw [←hs];exact HSM.out k hlt)
    have HRs:Hid (RdP wr s):=hI (by rw [←hs];exact (HRB.out k hlt).below HB.out)
    have HXr:=hI (HXR.out.below HB.out)
    obtain ⟨cs,hcs⟩:∃ c,c=(encP s).toArray:=⟨_,rfl⟩
    obtain ⟨hszs,hones⟩:=rowP hcs
    have hcell:∀ j,j < 18→wr.cell? ⟨g,k * 18 + j,none⟩=cs[j]?:=fun j hj=>by
     rw [qqo HKr.out.L.row,hcs,HL3.out.at_ k hlt j hj,hs]
    have hload:=qqz wr g (k * 18) cs hszs hcell
    have HCS:=hI hcs
    clear hcs hs hcell
    go_upto_region 12 with fail
    have HK12:=hI (HKr.out.next (bel1 wr (.cells cs 35)))
    have HSB:=hI (BoxG.newB HKr.out.b cs 35)
    have HRs2:=hI (HRs.out.below (bel1 wr (.cells cs 35)))
    have HXr2:=hI (HXr.out.below (bel1 wr (.cells cs 35)))
    have HB2:=hI (qab HB.out (.cells cs 35))
    obtain ⟨p,hp⟩:∃ N,wr.heap.size=N:=⟨_,rfl⟩
    rw [hp] at HSB ⊢
    generalize wr.alloc (.cells cs 35)=wC at HK12 HSB HRs2 HXr2 HB2 ⊢
    clear hload hp HKr HRs HXr HB
    have x1:=HSB.out.box hszs
    have x2:=HSB.out.rowAt
    have hS4:=qgc HMs.out.chk
    have hsn:=HMs.out.n
    have HQ7s:Hid (cs[7]?=some (.slice s.e.A s.e.z.size s.e.c)):=by show _=_;rw [HCS.out];rfl
    have HQ10s:Hid (cs[10]?=some (.slice s.m.A s.m.z.size s.m.c)):=by show _=_;rw [HCS.out];rfl
    have HQ11s:Hid (cs[11]?=some (.slice s.fr.A s.fr.z.size s.fr.c)):=by show _=_;rw [HCS.out];rfl
    have HS4:=hI hS4
    have hS:=HSZ.out
    have e2:((x.z.size:Int) != r.n)=false:=by rw [bne_eq_false_iff_eq,HXZ.out,qax];omega
    have e3:((s.fr.z.size:Int) != r.n)=false:=by rw [bne_eq_false_iff_eq];omega
    have e4:((s.m.z.size:Int) != r.n)=false:=by rw [bne_eq_false_iff_eq];omega
    have HE1:Hid (∀ y:RW Int,y.z=qcy s.k.z→((y.z.size:Int) != r.n)=false):=hI fun y h=>by
     rw [bne_eq_false_iff_eq,h,qax];omega
    clear hS4 hS hsn
    go_upto_region 16 with (go_at_call 18;refine (HMK.out s cs HCS.out HMs.out.chk HMs.out.few _ HRs2.out).mono ?_;rintro _ wD ⟨⟨y,rfl,hyz,hyr⟩,hb⟩;have HKD:=hI (HK12.out.next hb);have HSD:=hI (HSB.out.next hb);have HRD:=hI (HRs2.out.below hb);have HXD:=hI (HXr2.out.below hb);have HBD:=hI (qaa HB2.out hb);have HYZ:=hI hyz;have HYR:=hI hyr;have e1:=HE1.out y hyz;have c0:=HKD.out.X.r.at_ 0 HQ0.out;have s10:=HSD.out.at_ 10 HQ10s.out;have s11:=HSD.out.at_ 11 HQ11s.out;clear hb hyz hyr x1 x2)
    clear e1 e2 e3 e4 HK12 HSB HRs2 HXr2 HB2 c0 s10 s11
    go_loopw [12] (fun v wi=>∃ i:Nat,v=.int .i64 i∧(i:Int)≤r.n∧Hid (Below wD.heap.size wD wi)) (fun v _=>r.n.toNat - (intOf v).toNat)
    case atStart=>exact ⟨0,rfl,by show (0:Int)≤r.n;omega,hI (Below.refl _ _)⟩
    case round =>
     obtain ⟨i,rfl,hi,HBi⟩:=hrel
     have HKi:=hI (HKD.out.next HBi.out)
     have HSi:=hI (HSD.out.next HBi.out)
     have c0:=HKi.out.X.r.at_ 0 HQ0.out
     by_cases hlt2:(i:Int) < r.n
     ·have HRi:=hI (HRD.out.below HBi.out)
      have HRr:=hI (HR.out.below HKi.out.b)
      have HXi:=hI (HXD.out.below HBi.out)
      have HYi:=hI (HYR.out.below HBi.out)
      have hS:=HSZ.out
      have hS4:=HS4.out
      have hsn:=HMs.out.n
      have i1:i < r.k.z.size:=by omega
      have i2:i < s.k.z.size:=by omega
      have i3:i < s.fr.z.size:=by omega
      have i4:i < r.fr.z.size:=by omega
      have i5:i < s.m.z.size:=by omega
      have i6:i < r.m.z.size:=by omega
      have i7:=hS4.2.2.2 i i5
      have i8:=hS.2.2.2 i i6
      obtain ⟨b1,o1,hA1,_,f1⟩:=HYi.out.rd.at_ (i:=i) (by rw [HYZ.out,qax];exact i2)
      obtain ⟨b2,o2,hA2,_,f2⟩:=HXi.out.rd.at_ (i:=i) (by rw [HXZ.out,qax];exact i1)
      obtain ⟨b3,o3,hA3,_,f3⟩:=HRi.out.fr.rd.at_ (i:=i) i3
      obtain ⟨b4,o4,hA4,_,f4⟩:=HRr.out.fr.rd.at_ (i:=i) i4
      obtain ⟨b5,o5,hA5,_,f5⟩:=HRi.out.m.rd.at_ (i:=i) i5
      obtain ⟨b6,o6,hA6,_,f6⟩:=HRr.out.m.rd.at_ (i:=i) i6
      obtain ⟨b7,o7,hA7,_,f7⟩:=(HRi.out.mm i i5).rd.at_ (i:=k) (by omega)
      obtain ⟨b8,o8,hA8,_,f8⟩:=(HRr.out.mm i i6).rd.at_ (i:=k) (by omega)
      have d1:decide (y.z[i]! < x.z[i]!)=false:=decide_eq_false (by
       rw [HYZ.out,HXZ.out,qfp _ i2,qfp _ i1]
       have:=HMs.out.kk i i1;omega)
      have d2:decide (s.fr.z[i]! < r.fr.z[i]!)=false:=decide_eq_false (by have:=HMs.out.fr i i4;omega)
      have d3:(((s.m.z[i]!).z.size:Int) != r.n)=false:=by rw [bne_eq_false_iff_eq];omega
      have d4:decide ((s.m.z[i]!).z[k]! < (r.m.z[i]!).z[k]!)=false:=decide_eq_false (by have:=HMs.out.mm i i6 k hlt;omega)
      have q5:=f5 0 (by omega)
      have q6:=f6 0 (by omega)
      simp only [encW,RW.v,List.getElem!_cons_zero,Nat.add_zero,Nat.mul_one] at q5 q6
      rw [hA7] at q5
      rw [hA8] at q6
      have s10:=HSi.out.at_ 10 HQ10s.out
      have s11:=HSi.out.at_ 11 HQ11s.out
      have c10:=HKi.out.X.r.at_ 10 HQ10.out
      have c11:=HKi.out.X.r.at_ 11 HQ11.out
      rw [hA3] at s11
      rw [hA4] at c11
      rw [hA5] at s10
      rw [hA6] at c10
      rw [hA1,hA2]
      have z1:(i:Int) < (y.z.size:Int):=by rw [HYZ.out,qax];omega
      have z2:(i:Int) < (x.z.size:Int):=by rw [HXZ.out,qax];omega
      have z3:(i:Int) < (s.fr.z.size:Int):=by omega
      have z4:(i:Int) < (r.fr.z.size:Int):=by omega
      have z5:(i:Int) < (s.m.z.size:Int):=by omega
      have z6:(i:Int) < (r.m.z.size:Int):=by omega
      have z7:(k:Int) < ((s.m.z[i]!).z.size:Int):=by omega
      have z8:(k:Int) < ((r.m.z[i]!).z.size:Int):=by omega
      generalize y.z[i]! = v1 at f1 d1
      generalize x.z[i]! = v2 at f2 d1
      generalize s.fr.z[i]! = v3 at f3 d2
      generalize r.fr.z[i]! = v4 at f4 d2
      generalize (s.m.z[i]!).z[k]! = v7 at f7 d4
      generalize (r.m.z[i]!).z[k]! = v8 at f8 d4
      generalize (s.m.z[i]!).z.size=n7 at q5 d3 z7 i7
      generalize (r.m.z[i]!).z.size=n8 at q6 z8 i8
      generalize (s.m.z[i]!).c=m7 at q5
      generalize (r.m.z[i]!).c=m8 at q6
      clear hS hS4 hsn hA1 hA2 hA3 hA4 hA5 hA6 hA7 hA8 f5 f6 i1 i2 i3 i4 i5 i6 i7 i8 HRi HRr HXi HYi
      go_wp2
      go_quiet (fail)
      go_wp2
      go_roundw
      case rel=>exact ⟨i + 1,by go_num,by omega,hI (qbc HBi.out _)⟩
      case measure=>simp [intOf];omega
     ·have hi2:(i:Int)=r.n:=by omega
      go_upto_region 21 with fail
      clear c0 hi hi2 HKi HSi
      have h20:r.e.z.size≤20:=by have:=of_decide_eq_false HB3.out;omega
      go_loopw [13,14,15,16,17] (fun v _ _ _ _ wi=>∃ i:Nat,v=.int .i64 i∧i≤r.e.z.size∧Hid (Below wD.heap.size wD wi)) (fun v _ _ _ _ _=>r.e.z.size - (intOf v).toNat)
      case atStart=>exact ⟨0,rfl,Nat.zero_le _,HBi⟩
      case round =>
       clear HBi
       obtain ⟨q,rfl,hq,HBq⟩:=hrel
       have HKq:=hI (HKD.out.next HBq.out)
       have HSq:=hI (HSD.out.next HBq.out)
       have c7:=HKq.out.X.r.at_ 7 HQ7.out
       by_cases hlt3:q < r.e.z.size
       ·have qz:(q:Int) < (r.e.z.size:Int):=by omega
        obtain ⟨b,off,hA,_,f⟩:=(HR.out.below HKq.out.b).e.rd.at_ (i:=q) hlt3
        have HEU:=hI (HMs.out.e _ (qen r.e.z hlt3))
        obtain ⟨u,hu⟩:∃ u,r.e.z[q]! = u:=⟨_,rfl⟩
        rw [hu] at f HEU
        obtain ⟨ce,hce⟩:∃ c,c=(encE u).toArray:=⟨_,rfl⟩
        have hze:ce.size=10:=by rw [hce];rfl
        have hone:qbt ce=true:=by rw [hce];exact qep u
        have hload:=qte wr b (off + q * 10) ce hze (fun j hj=>by
         rw [f j hj,hce,List.getElem?_toArray,List.getElem!_eq_getElem?_getD]
         rw [List.getElem?_eq_getElem (by rw [qbz];exact hj)];rfl)
        have HCE:=hI hce
        rw [hA] at c7
        clear f hA hu hce
        go_upto_region 24 with fail
        have HKe:=hI (HKq.out.next (bel1 wr (.cells ce 58)))
        have HSe:=hI (HSq.out.next (bel1 wr (.cells ce 58)))
        have HEB:=hI (BoxG.newB HKq.out.b ce 58)
        have HBe:=hI (qab HBq.out (.cells ce 58))
        obtain ⟨pe,hpe⟩:∃ N,wr.heap.size=N:=⟨_,rfl⟩
        rw [hpe] at HEB ⊢
        generalize wr.alloc (.cells ce 58)=wE at HKe HSe HEB HBe ⊢
        clear hload hpe HKq HSq HBq c7
        have E0:Hid (ce[0]?=some (.int .i64 u.id)):=by show _=_;rw [HCE.out];rfl
        have E1:Hid (ce[1]?=some (.int .i64 u.ph)):=by show _=_;rw [HCE.out];rfl
        have E3:Hid (ce[3]?=some (.int .i64 u.t)):=by show _=_;rw [HCE.out];rfl
        have d0:=HEB.out.at_ 0 E0.out
        have s7:=HSe.out.at_ 7 HQ7s.out
        have HFD:Hid (Calls Tryz.prog 19 #[.slice s.e.A s.e.z.size s.e.c,.int .i64 u.id] wE fun e w'=>(∃ (c:Array Value) (ok:Bool),e=.returned (.tuple #[.agg c,.bool ok])∧c.size=10∧qbt c=true∧(ok=false→∀ y ∈ s.e.z.toList,y.id≠u.id))∧Below wE.heap.size wE w') :=
         (qsn s.e.A s.e.c s.e.z u.id wE (HRD.out.below HBe.out).e (by have:=HMs.out.few.es;omega)).mono fun e w' ⟨⟨x,h1,h2⟩,hb⟩=>⟨⟨_,_,h1,rfl,qep _,fun h y hy=>by
           rcases h2 with ⟨n,_,h3,_⟩ | ⟨_,h3⟩
           ·rw [h3] at h;cases h
           ·obtain ⟨n,hn,rfl⟩:=qgb hy
            exact h3 n hn⟩,hb⟩
        go_wp2_with (first
         | (go_at_call 19;refine HFD.out.mono ?_;rintro _ wF ⟨⟨c2,ok,rfl,hz2,ho2,hno⟩,hb⟩;have HKF:=hI (HKe.out.next hb);have HSF:=hI (HSe.out.next hb);have HEF:=hI (HEB.out.next hb);have HBF:=hI (qaa HBe.out hb);have HNO:=hI hno;clear hb hno d0 s7))
        ·go_roundw
         case rel=>exact ⟨q + 1,by go_num,by omega,hI (qab HBF.out _)⟩
         case measure=>simp [intOf];omega
        ·have hok:ok=false:=by first | assumption | (rw [Bool.eq_false_iff];assumption)
         have HFE:Hid (u.ph=6∧∀ i,i < s.fr.z.size→u.t≤s.fr.z[i]!):=hI (by
          rcases HEU.out with ⟨y,hy,e⟩ | h
          ·exact absurd e (HNO.out hok y hy)
          ·exact h)
         have HKG:=hI (HKF.out.next (bel1 wF (.cells c2 58)))
         have HSG:=hI (HSF.out.next (bel1 wF (.cells c2 58)))
         have HEG:=hI (HEF.out.next (bel1 wF (.cells c2 58)))
         have HBG:=hI (qab HBF.out (.cells c2 58))
         generalize wF.alloc (.cells c2 58)=wG at HKG HSG HEG HBG ⊢
         clear HKF HSF HEF HBF HNO HKe HSe HEB HBe HFD
         go_loopw [17] (fun v wi=>∃ i:Nat,v=.int .i64 i∧(i:Int)≤r.n∧Hid (Below wG.heap.size wG wi)) (fun v _=>r.n.toNat - (intOf v).toNat)
         case atStart=>exact ⟨0,rfl,by show (0:Int)≤r.n;omega,hI (Below.refl _ _)⟩
         case round =>
          obtain ⟨i,rfl,hi,HBi⟩:=hrel
          have HKi:=hI (HKG.out.next HBi.out)
          have c0:=HKi.out.X.r.at_ 0 HQ0.out
          by_cases hlt4:(i:Int) < r.n
          ·have HSi:=hI (HSG.out.next HBi.out)
           have HEi:=hI (HEG.out.next HBi.out)
           have HRi:=hI (HRD.out.below (qaa HBG.out HBi.out))
           have hS4:=HS4.out
           have hsn:=HMs.out.n
           have i3:i < s.fr.z.size:=by omega
           obtain ⟨b3,o3,hA3,_,f3⟩:=HRi.out.fr.rd.at_ (i:=i) i3
           have z3:(i:Int) < (s.fr.z.size:Int):=by omega
           have s11:=HSi.out.at_ 11 HQ11s.out
           rw [hA3] at s11
           have hd:decide (s.fr.z[i]! < u.t)=false:=decide_eq_false (by have:=HFE.out.2 i i3;omega)
           have t1:=HEi.out.at_ 1 E1.out
           have t3:=HEi.out.at_ 3 E3.out
           rw [HFE.out.1] at t1
           generalize s.fr.z[i]! = v3 at f3 hd
           clear hS4 hsn hA3 i3 HSi HEi HRi HKi
           go_wp2
           go_quiet (fail)
           go_wp2
           go_roundw
           case rel=>exact ⟨i + 1,by go_num,by omega,hI (qbc HBi.out _)⟩
           case measure=>simp [intOf];omega
          ·have hi2:(i:Int)=r.n:=by omega
           go_wp2
           go_roundw
           case rel=>exact ⟨q + 1,by go_num,by omega,hI (qaa HBG.out HBi.out)⟩
           case measure=>simp [intOf];omega
       ·have hlt':decide ((q:Int) < (r.e.z.size:Int))=false:=decide_eq_false (by omega)
        obtain rfl:q=r.e.z.size:=by omega
        go_wp2
        go_roundw
        case rel=>exact ⟨k + 1,by go_num,by omega,hI (qaa HBD.out HBq.out)⟩
        case measure=>simp [intOf];omega
   ·obtain rfl:k=3:=by omega
    have HKE:=hI (HKB.out.next HB.out)
    go_wp2_with (go_at_call 8;refine (AW.out _).mono ?_;rintro _ w9 ⟨rfl,hb⟩;have HKZ:=hI (HKE.out.next hb);clear hb)
    go_ret
    exact ⟨rfl,HKZ.out.b⟩
 exact hgoal _ _ HCR.out HCM.out
end Go.Proofs.YtlkmagmdhopcjaaGreat
