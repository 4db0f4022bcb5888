/- Texts that the law leans on. -/
import Derived.Test.YtnmojicfmcbgmaaGreatDoorQImD
import Derived.Test.YtnmojicfmcbgmaaGreatDoorQIoE
import Derived.Test.YtnmojicfmcbgmaaGreatDoorQIoH
import Derived.Deep.CutBlock
namespace Go.Proofs.YtnmojicfmcbgmaaGreatDoor
open Go.RowKit Go.Sort Go.Lib Nb
set_option maxRecDepth 100000
theorem pt_new (W:World):Calls Tryz.prog 19 #[.int .i64 3,.int .i64 1,.int .i64 1] W fun e w'=>∃ (r:RP) (cs:Array Value),e=.returned (.tuple #[.agg cs,.int .i64 0])∧cs=(encP r).toArray∧NewR 3 1 1 3 r∧RdP w' r∧Below W.heap.size W w' :=
 (qxr 3 1 1 W).mono fun e w' ⟨⟨r,he,hn,hr⟩,hb⟩=>by
   have hp:newP 3 1 1:=by decide
   rw [if_pos hp] at he hn
   exact ⟨r,_,he,rfl,hn,hr,hb⟩
theorem pt_put {r:RP} {cs:Array Value} (hcs:cs=(encP r).toArray) (hp:putE r=0) (hf:FewC r) (W:World) (hr:RdP W r) :
 Calls Tryz.prog 8 #[.agg cs] W fun e w'=>e=.returned (.tuple #[.string ⟨(qbs r).toArray⟩,.nilIface])∧Below W.heap.size W w':=by
 rw [hcs]
 refine (qis r W hr hf).mono ?_
 rintro e w' ⟨h | ⟨h,_⟩,hb⟩
 ·exact ⟨h.2,hb⟩
 ·exact absurd hp h
theorem pt_take {r:RP} (hp:putE r=0) (hl:(qbs r).length≤18000) (W:World) (hg:Glob W) :
 Calls Tryz.prog 10 #[.string ⟨(qbs r).toArray⟩] W fun e w'=>∃ (R:RP) (cs:Array Value),e=.returned (.tuple #[.agg cs,.nilIface])∧cs=(encP R).toArray∧RdP w' R∧qkb R r=true∧chkW R=true∧FewI R∧Below W.heap.size W w':=by
 refine (qjt ⟨(qbs r).toArray⟩ W hg (by show (qbs r).toArray.size≤_;simp;omega)).mono ?_
 rintro e w' ⟨R,c,ev,he,ht,hr,herr,hb⟩
 obtain ⟨hc,h1,h2,h3,h4⟩:=take_put hp (by simpa using ht)
 subst hc
 rcases herr with ⟨_,rfl⟩ | ⟨h,_⟩
 ·exact ⟨R,_,he,rfl,hr,h1,h2,qom h3 h4,hb⟩
 ·exact absurd rfl h
theorem pt_more {r:RP} (hp:putE r=0) (hl:(qbs r).length≤17000) (W:World) (hg:Glob W) :
 Calls Tryz.prog 10 #[.string (⟨(qbs r).toArray⟩ ++ ⟨#[120]⟩)] W fun e w'=>∃ (cs:Array Value) (ev:Value) (ops:List ByteArray),e=.returned (.tuple #[.agg cs,ev])∧cs.size=18∧qbw cs=true∧Chain w' (qdn :: ops) 6 ev∧Below W.heap.size W w':=by
 have e1:=sbx (l:=qbs r) (x:=120)
 obtain ⟨sx,hsx⟩:∃ y:ByteArray,(⟨(qbs r).toArray⟩ ++ ⟨#[120]⟩:ByteArray)=y:=⟨_,rfl⟩
 rw [hsx] at e1 ⊢
 have e2:sx.size≤1000000:=by
  have:sx.data.toList.length=sx.size:=by simp
  rw [←this,e1,List.length_append]
  simp only [List.length_cons,List.length_nil]
  omega
 clear hsx
 refine (qjt sx W hg e2).mono ?_
 rintro e w' ⟨R,c,ev,he,ht,hr,herr,hb⟩
 rw [e1] at ht
 have hc:=take_rest hp (by omega) ht
 subst hc
 rcases herr with ⟨h,_⟩ | ⟨_,ops,_,h⟩
 ·cases h
 ·exact ⟨_,ev,ops,he,qde R,qfb R,h,hb⟩
theorem pt_arg (W:World) :
 Calls Tryz.prog 8 #[.agg (encP (default:RP)).toArray] W fun e w'=>∃ v,e=.returned (.tuple #[.string ⟨#[]⟩,v])∧Chain w' [qdn] 2 v∧Below W.heap.size W w':=by
 refine (qis default W (qcq W) qgr).mono ?_
 rintro e w' ⟨h | ⟨_,v,h1,h2⟩,hb⟩
 ·rw [qsl] at h;exact absurd h.1 (by decide)
 ·rw [qsl] at h2
  exact ⟨v,h1,h2,hb⟩
attribute [local go_sem ↓] qbc qba
attribute [local go_sem] qbt qbq qbz qfh qhm
set_option maxHeartbeats 16000000 in
theorem qko (w:World) (hg:Glob w):Calls Tryz.prog 7 #[] w fun e w'=>e=.returned (.bool true)∧Below w.heap.size w w':=by
 have HG:=hI hg
 clear hg
 go_enter Tryz.func7,Tryz.ntmps7
 go_wp2_with fail
 refine (pt_new _).mono ?_
 rintro _ w1 ⟨r,cs,rfl,hcs,hn,hr,hb1⟩
 have HCS:=hI hcs
 have HI:cs.size=18:=by rw [hcs];rfl
 have H1:qbw cs=true:=by rw [hcs];exact qfb r
 have HN:=hI hn
 have HR:=hI hr
 have HB1:=hI hb1
 have HLN:=hI (new_len hn)
 have HPU:=hI (new_put hn)
 have HFW:=hI (hn.few (by decide)).c
 clear hcs hn hr hb1
 go_upto_region 2 with (fail)
 obtain ⟨q1,hq1⟩:∃ p,p=w1.heap.size:=⟨_,rfl⟩
 have X2:Hid ((w1.alloc (.cells cs 35)).heap[w1.heap.size]?=some (.cells cs 35 (0,0))):=qah w1 _
 have B2:=hI (qac HB1.out (bel1 w1 (.cells cs 35)))
 have R2:=hI (HR.out.below (bel1 w1 (.cells cs 35)))
 obtain ⟨w2,hw2⟩:∃ W,W=w1.alloc (.cells cs 35):=⟨_,rfl⟩
 rw [←hw2,←hq1] at X2
 rw [←hw2] at B2 R2 ⊢
 rw [←hq1]
 clear hw2 hq1 HB1 HR
 have x1:=qav X2.out HI
 have x2:=qbh X2.out
 have HP:=hI (pt_put HCS.out HPU.out HFW.out w2 R2.out)
 obtain ⟨sb,hsb⟩:∃ y:ByteArray,(⟨(qbs r).toArray⟩:ByteArray)=y:=⟨_,rfl⟩
 have HT:=hI (fun W (h:Glob W)=>pt_take HPU.out (by rw [HLN.out];decide) W h)
 have HM:=hI (fun W (h:Glob W)=>pt_more HPU.out (by rw [HLN.out];decide) W h)
 have hsz:sb.size=42:=by
  rw [←hsb]
  show (qbs r).toArray.size=42
  rw [List.size_toArray]
  exact HLN.out
 rw [hsb] at HP HT HM
 clear hsb
 go_wp2_with fail
 refine HP.out.mono ?_
 rintro _ w3 ⟨rfl,hb3⟩
 have X3:=hI ((hb3.block _ (qaa X2.out)).trans X2.out)
 have B3:=hI (qac B2.out hb3)
 have R3:=hI (R2.out.below hb3)
 clear hb3 x1 x2 HP X2 B2 R2
 go_wp2_with fail
 refine (HT.out _ (HG.out.below B3.out)).mono ?_
 rintro _ w4 ⟨R,ct,rfl,hct,hrt,hsm,hck,hft,hb4⟩
 have HI2:ct.size=18:=by rw [hct];rfl
 have H2:qbw ct=true:=by rw [hct];exact qfb R
 have HCT:=hI hct
 have HSM:=hI hsm
 have HFT:=hI hft
 have X4:=hI ((hb4.block _ (qaa X3.out)).trans X3.out)
 have B4:=hI (qac B3.out hb4)
 have R4:=hI (R3.out.below hb4)
 have T4:=hI hrt
 clear hct hrt hsm hck hft hb4 X3 B3 R3 HT
 go_upto_region 4 with (fail)
 obtain ⟨q2,hq2⟩:∃ p,p=w4.heap.size:=⟨_,rfl⟩
 have hb5:=bel1 w4 (.cells ct 35)
 have Y5:Hid ((w4.alloc (.cells ct 35)).heap[w4.heap.size]?=some (.cells ct 35 (0,0))):=qah w4 _
 have X5:=hI ((hb5.block _ (qaa X4.out)).trans X4.out)
 have B5:=hI (qac B4.out hb5)
 have R5:=hI (R4.out.below hb5)
 have T5:=hI (T4.out.below hb5)
 obtain ⟨w5,hw5⟩:∃ W,W=w4.alloc (.cells ct 35):=⟨_,rfl⟩
 rw [←hw5,←hq2] at Y5
 rw [←hw5] at X5 B5 R5 T5 ⊢
 rw [←hq2]
 clear hw5 hq2 hb5 X4 B4 R4 T4
 go_wp2_with fail
 refine (HM.out _ (HG.out.below B5.out)).mono ?_
 rintro _ w6 ⟨cb,ev,ops,rfl,hcb,hcb1,hch,hb6⟩
 have hb7:=qac hb6 (bel1 w6 (.cells cb 35))
 have C6:=hI (hch.below (bel1 w6 (.cells cb 35)))
 clear hch HM
 go_upto_region 5 with (fail)
 obtain ⟨w7,hw7⟩:∃ W,W=w6.alloc (.cells cb 35):=⟨_,rfl⟩
 rw [←hw7] at hb7 C6 ⊢
 have X7:=hI ((hb7.block _ (qaa X5.out)).trans X5.out)
 have Y7:=hI ((hb7.block _ (qaa Y5.out)).trans Y5.out)
 have B7:=hI (qac B5.out hb7)
 have R7:=hI (R5.out.below hb7)
 have T7:=hI (T5.out.below hb7)
 clear hw7 hb6 hb7 hcb hcb1 X5 Y5 B5 R5 T5
 go_wp2_with fail
 refine (pt_arg _).mono ?_
 rintro _ w8 ⟨va,rfl,hch,hb8⟩
 have X8:=hI ((hb8.block _ (qaa X7.out)).trans X7.out)
 have Y8:=hI ((hb8.block _ (qaa Y7.out)).trans Y7.out)
 have B8:=hI (qac B7.out hb8)
 have R8:=hI (R7.out.below hb8)
 have T8:=hI (T7.out.below hb8)
 have C8:=hI (C6.out.below hb8)
 have D8:=hI hch
 clear hb8 hch X7 Y7 B7 R7 T7 C6
 have x1:=qav X8.out HI
 have x2:=qbh X8.out
 have y1:=qav Y8.out HI2
 have y2:=qbh Y8.out
 have HSA:Hid (Calls Tryz.prog 14 #[.agg ct,.agg cs] w8 fun e w'=>e=.returned (.bool true)∧Below w8.heap.size w8 w'):=by
  have:=qnd R r w8 T8.out R8.out HFT.out.c HFW.out HFT.out.it HFT.out.ss (by rw [HN.out.it];decide) (by rw [HN.out.ss];decide)
  rw [HSM.out,←HCT.out,←HCS.out] at this
  exact this
 go_wp2_with fail
 refine HSA.out.mono ?_
 rintro _ w9 ⟨rfl,hb9⟩
 have X9:=hI ((hb9.block _ (qaa X8.out)).trans X8.out)
 have B9:=hI (qac B8.out hb9)
 have R9:=hI (R8.out.below hb9)
 have C9:=hI (C8.out.below hb9)
 have D9:=hI (D8.out.below hb9)
 clear hb9 x1 x2 y1 y2 HSA X8 Y8 B8 R8 T8 C8 D8
 go_wp2_with fail
 refine (qkn (qdn :: ops) 6 ev _ (HG.out.below B9.out) (Or.inr ⟨by decide,C9.out⟩)).mono ?_
 rintro _ w10 ⟨rfl,hb10⟩
 have X10:=hI ((hb10.block _ (qaa X9.out)).trans X9.out)
 have B10:=hI (qac B9.out hb10)
 have R10:=hI (R9.out.below hb10)
 have D10:=hI (D9.out.below hb10)
 clear hb10 X9 B9 R9 C9 D9
 go_wp2_with fail
 refine (qkn [qdn] 2 va _ (HG.out.below B10.out) (Or.inr ⟨by decide,D10.out⟩)).mono ?_
 rintro _ w11 ⟨rfl,hb11⟩
 have X11:=hI ((hb11.block _ (qaa X10.out)).trans X10.out)
 have B11:=hI (qac B10.out hb11)
 have R11:=hI (R10.out.below hb11)
 have D11:=hI (D10.out.below hb11)
 clear hb11 X10 B10 R10 D10
 go_wp2_with fail
 refine (At_any [qdn] 2 va qdn _ (HG.out.below B11.out) D11.out (by decide)).mono ?_
 rw [show hasS [qdn] qdn=true from qut (by simp)]
 rintro _ w12 ⟨rfl,hb12⟩
 have X12:=hI ((hb12.block _ (qaa X11.out)).trans X11.out)
 have B12:=hI (qac B11.out hb12)
 have R12:=hI (R11.out.below hb12)
 clear hb12 X11 B11 R11 D11
 have x1:=qav X12.out HI
 have x2:=qbh X12.out
 have HSI:Hid (Calls Tryz.prog 13 #[.agg cs] w12 fun e w'=>e=.returned (.int .i64 42)∧Below w12.heap.size w12 w'):=by
  have:=qju r w12 R12.out HFW.out
  rw [HPU.out,if_pos rfl,HLN.out,←HCS.out] at this
  exact this
 go_wp2_with fail
 refine HSI.out.mono ?_
 rintro _ w13 ⟨rfl,hb13⟩
 have B13:=hI (qac B12.out hb13)
 clear hb13 x1 x2 HSI X12 B12 R12
 have HSD:Hid (∀ W,Calls Tryz.prog 13 #[.agg (encP (default:RP)).toArray] W fun e w'=>e=.returned (.int .i64 0)∧Below W.heap.size W w'):=fun W=>by
  have:=qju default W (qcq W) qgr
  rw [qsl,if_neg (by decide)] at this
  exact this
 go_wp2_with fail
 refine (HSD.out _).mono ?_
 rintro _ w14 ⟨rfl,hb14⟩
 have B14:=hI (qac B13.out hb14)
 clear hb14 HSD B13
 go_wp2
 go_ret
 exact ⟨rfl,B14.out⟩
end Go.Proofs.YtnmojicfmcbgmaaGreatDoor
namespace Go.Proofs.YtnmojicfmcbgmaaGreatDoor
open Go.RowKit Go.Sort Go.Lib Nb
set_option maxRecDepth 100000
theorem fewW_c {r:RP} (h:fewW r=true):FewC r∧r.it.z.size≤1000∧r.ss.z.size≤1000:=by
 unfold fewW at h
 rw [Bool.and_eq_true] at h
 have hp:=qvq.1 h.1
 have h2:=h.2
 unfold qlj qlh at h2
 simp only [Bool.and_eq_true,decide_eq_true_eq] at h2
 exact ⟨hp.c,by omega,by omega⟩
theorem tk_put {s:List UInt8} {R:RP} (h:TkO s R 0):chkW R=true∧FewI R∧qbs R=s∧putE R=0∧tkE s=0:=by
 rcases h with ⟨h1,h2,_⟩ | ⟨_,h2,_⟩ | ⟨h1,_,hx,nx,cx⟩
 ·exact absurd h2.symm h1
 ·cases h2
 ·obtain ⟨b1,b2,b3,_⟩:=qsj h1
  rw [←hx] at b2 b3
  have hf:=qom b3 nx
  have hb:qbs R=s:=by rw [qip];exact b2.symm
  refine ⟨cx,hf,hb,?_,h1⟩
  unfold putE
  rw [if_pos cx,hf.w,if_neg Bool.false_ne_true,hb,if_neg (by omega)]
theorem tkO_code {s:List UInt8} {R:RP} {c:Nat} (h:TkO s R c) (hc:c≠0):R=default:=by
 rcases h with ⟨_,_,h2⟩ | ⟨_,_,h2,_⟩ | ⟨_,h2,_⟩
 ·exact h2
 ·exact h2
 ·exact absurd h2 hc
theorem numB_pos (n:Nat):1≤(numB n).length:=by
 unfold numB
 split
 ·exact Nat.le_refl 1
 ·rw [List.length_cons];omega
theorem ErrI.v {w:World} {c:Nat} {ev:Value} (h:ErrI w c ev):∃ ops,ErrV w ops (c:Int) ev:=by
 rcases h with ⟨rfl,rfl⟩ | ⟨h,ops,_,hch⟩
 ·exact ⟨[],Or.inl ⟨rfl,rfl,rfl⟩⟩
 ·exact ⟨_,Or.inr ⟨by omega,hch⟩⟩
end Go.Proofs.YtnmojicfmcbgmaaGreatDoor
namespace Go.Proofs.YtnmojicfmcbgmaaGreatDoor
open Go.RowKit Go.Sort Go.Lib Nb
set_option maxRecDepth 100000
def qov (t:TypeId) (v:Value):Sem Value:=Instr.loadAt t v
def qja (t:TypeId) (v x:Value):Sem Unit:=Instr.storeAt t v x
theorem qfe (ρ:Operand→Value) (dst:Option Tmp) (x:Operand) (ty:TypeId) (pos:String) (after:Array Edge) (guard:Option (Nat×Bool)) :
 execOp ρ { dst,op:=.load 98 x,type:=ty,pos,after,guard }=(do pure (.value (← qov 98 (ρ x)))):=rfl
theorem qej (ρ:Operand→Value) (dst:Option Tmp) (x y:Operand) (ty:TypeId) (pos:String) (after:Array Edge) (guard:Option (Nat×Bool)) :
 execOp ρ { dst,op:=.store 98 x y,type:=ty,pos,after,guard }=(do qja 98 (ρ x) (ρ y);pure .skip):=rfl
theorem inUnd:Tryz.prog.underlying 98 = some (.struct (Tryz.prog.fieldsOf 98)):=by kernel_rfl
theorem qfq (W:World) (g:Nat) (h:qgm W g 6=true):(qov 98 (.pointer (some ⟨g,0,none⟩))).run Tryz.prog W=.ok (.agg (rowAt W g)) W:=by
 obtain ⟨t,h1,h2⟩:=qhd h
 simp only [qov,Instr.loadAt,Instr.sureAddr,Sem.run_bind,Sem.run_pure,Result.andThen]
 exact run_loadVar_row W g t 98 _ (0,0) _ h1 inUnd rfl (by rw [h2];kernel_rfl)
theorem qaq (W:World) (g:Nat) (cs:Array Value) (h:qgm W g 6=true) (hc:cs.size=6) (h1:qbw cs=true) :
 (qja 98 (.pointer (some ⟨g,0,none⟩)) (.agg cs)).run Tryz.prog W=.ok () (W.setRow g cs):=by
 obtain ⟨t,h2,h3⟩:=qhd h
 simp only [qja,Instr.storeAt,Instr.sureAddr,Sem.run_bind,Sem.run_pure,Result.andThen]
 exact run_storeVar_row W g t 98 _ cs h2 (by rw [hc];kernel_rfl) (by rw [h3,hc]) h1
theorem qbk (s:ByteArray) (st:IS) (pc:ByteArray) (v:Value):(dI s st pc v).size=6:=rfl
theorem qcn (s:ByteArray) (st:IS) (pc:ByteArray) (A:Option Addr) (n c:Nat):qbw (dI s st pc (.slice A n c))=true:=by simp [qbw,dI,Value.oneCell']
theorem qnh {W:World} {g:Nat} {cs:Array Value} {T:TypeId} (h:W.heap[g]?=some (.cells cs T (0,0))) (hc:cs.size=6):(loadVar 98 ⟨g,0,none⟩).run Tryz.prog W=.ok (.agg cs) W :=
 run_loadVar_row W g T 98 cs (0,0) _ h inUnd rfl (by rw [hc];kernel_rfl)
theorem qlq {fn:Func} {t u:Tmp} (hf:fn.results=#[.cell t 98,.tmp u]) {tm:Array Value} {W:World} {g:Nat} {cs:Array Value} {T:TypeId} (hg:tm.getD t undef=.pointer (some ⟨g,0,none⟩)) (h:W.heap[g]?=some (.cells cs T (0,0))) (hc:cs.size=6):(results fn tm).run Tryz.prog W=.ok (.tuple #[.agg cs,tm.getD u undef]) W:=by
 have hg2:tm[t]?.getD undef=.pointer (some ⟨g,0,none⟩):=by rw [←Array.getD_eq_getD_getElem?];exact hg
 simp [results,hf,hg2,asAddr,qnh h hc]
theorem qlr {fn:Func} {t u:Tmp} {U:TypeId} (hf:fn.results=#[.cell t 98,.cell u U]) {tm:Array Value} {W:World} {g k:Nat} {cs ds:Array Value} {T:TypeId} (hg:tm.getD t undef=.pointer (some ⟨g,0,none⟩)) (h:W.heap[g]?=some (.cells cs T (0,0))) (hc:cs.size=6)
 (hk:tm.getD u undef=.pointer (some ⟨k,0,none⟩)) (hl:(loadVar U ⟨k,0,none⟩).run Tryz.prog W=.ok (.agg ds) W):(results fn tm).run Tryz.prog W=.ok (.tuple #[.agg cs,.agg ds]) W:=by
 have hg2:tm[t]?.getD undef=.pointer (some ⟨g,0,none⟩):=by rw [←Array.getD_eq_getD_getElem?];exact hg
 have hk2:tm[u]?.getD undef=.pointer (some ⟨k,0,none⟩):=by rw [←Array.getD_eq_getD_getElem?];exact hk
 simp [results,hf,hg2,hk2,asAddr,qnh h hc,hl]
theorem KF.of_setRow {m g:Nat} (hg:g < m) (W:World) (cs:Array Value):KF m W (W.setRow g cs):=⟨by simp,fun i h1 _=>setRow_other W g i cs (by omega)⟩
theorem KF.of_setCell {m:Nat} {p:Addr} (hg:p.block < m) (W:World) (v:Value):KF m W (W.setCell p v):=⟨by simp,fun i h1 _=>Below.heap_setCell W p v i (by omega)⟩
theorem KF.drew {m:Nat} {W W':World} (h:KF m W W'):KF m W W'.drew:=⟨h.size,h.block⟩
theorem qbx {w W:World} (h:Below w.heap.size w W) {g:Nat} (hg:w.heap.size≤g) (cs:Array Value):Below w.heap.size w (W.setRow g cs) :=
 ⟨h.os,h.tape,h.output,by simpa using h.size,fun i hi=>(setRow_other W g i cs (by omega)).trans (h.block i hi)⟩
theorem qcv {W W':World} {o:Option Nat} {i:Nat} {x:Obj} (hg:W.grownBy W' o) (h:W.heap[i]?=some x) (ho:o≠some i):W'.heap[i]?=some x:=(hg.block i (qaa h) (fun e=>ho e.symm)).trans h
structure DmI {α β:Type} [Inhabited α] (kd:KD α) (C:Cod β) (pc:α→β) (nn:α→Prop) (T:TypeId) (m:Nat) (s:ByteArray) (st:IS) (z:Array α) (v:Value) (W:World):Prop where
 own:W.ownsRow m T kd.k v z.size (flatK kd.en kd.k z).toList
 rd:∀ i,i < z.size→kd.rd W z[i]!∧∀ blk,kd.rw z[i]! blk→m≤blk∧v.ownBlock≠some blk
 ms:z.toList.map pc=(qan (C.rd s.data.toList) z.size st).2
 nn:∀ y ∈ z.toList,nn y
section
variable {α β:Type} [Inhabited α] {kd:KD α} {C:Cod β} {pc:α→β} {nn:α→Prop} {T:TypeId} {m:Nat} {s:ByteArray} {st:IS} {W W':World} {z:Array α} {v:Value}
theorem DmI.start:DmI kd C pc nn T m s st #[] (.slice none 0 0) W:=⟨qda _ _ _ _ _,fun i hi=>absurd hi (by simp),rfl,by simp⟩
theorem DmI.kf (h:DmI kd C pc nn T m s st z v W) (hk:KF m W W'):DmI kd C pc nn T m s st z v W' :=
 ⟨qiy h.own hk.block,fun i hi=>⟨kd.keep (h.rd i hi).1 hk.size (fun blk hb=>hk.block blk ((h.rd i hi).2 blk hb).1 (kd.lt (h.rd i hi).1 hb)),(h.rd i hi).2⟩,h.ms,h.nn⟩
theorem DmI.step {x:α} {w5 w7:World} {v':Value} (h:DmI kd C pc nn T m s st z v W) (hk:KF m W w5)
 (hrd:kd.rd w5 x) (hrw:∀ blk,kd.rw x blk→W.heap.size≤blk) (hm:m≤W.heap.size) (hpc:pc x=(C.rd s.data.toList (qan (C.rd s.data.toList) z.size st).1).2) (hnn:nn x)
 (hown:w7.ownsRow m T kd.k v' (z.size + 1) ((flatK kd.en kd.k z).toList ++ kd.en x)) (hgrow:w5.grownBy w7 v.ownBlock) (hat:(∃ blk,kd.rw x blk)∨(∃ i,i < z.size∧∃ blk,kd.rw z[i]! blk)→v'.ownBlock=v.ownBlock∨∃ g,v'.ownBlock=some g∧w5.heap.size≤g):DmI kd C pc nn T m s st (z.push x) v' w7:=by
 have s2:=hk.size
 have s4:=hgrow.size
 have old:∀ blk,blk < w5.heap.size→v.ownBlock≠some blk→w7.heap[blk]?=w5.heap[blk]?:=fun blk h1 h2=>hgrow.block blk h1 (fun e=>h2 e.symm)
 refine ⟨?_,fun i hi=>?_,?_,fun y hy=>?_⟩
 ·rw [Array.size_push,qcr kd.hk]
  exact hown
 ·rw [Array.size_push] at hi
  by_cases hlt:i < z.size
  ·have e:(z.push x)[i]! = z[i]!:=by
    rw [getElem!_pos (z.push x) i (by simp;omega),getElem!_pos z i hlt,Array.getElem_push_lt hlt]
   rw [e]
   obtain ⟨r1,r2⟩:=h.rd i hlt
   have hl:∀ blk,kd.rw z[i]! blk→blk < W.heap.size:=fun blk hk=>kd.lt r1 hk
   refine ⟨kd.keep r1 (by omega) (fun blk hb=>?_),fun blk hb=>⟨(r2 blk hb).1,?_⟩⟩
   ·have h1:=hl blk hb
    have h2:=r2 blk hb
    exact (old blk (by omega) h2.2).trans (hk.block blk h2.1 h1)
   ·have h1:=hl blk hb
    rcases hat (Or.inr ⟨i,hlt,blk,hb⟩) with hat | ⟨g,hat,hg⟩
    ·rw [hat];exact (r2 blk hb).2
    ·rw [hat];intro e;injection e with e;omega
  ·have e:(z.push x)[i]! = x:=by
    have:i=z.size:=by omega
    subst this
    rw [getElem!_pos (z.push x) _ (by simp),Array.getElem_push_eq]
   rw [e]
   have hne:∀ blk,kd.rw x blk→v.ownBlock≠some blk:=fun blk hb e=>by
    have:=(h.own.lt blk e).2
    have:=hrw blk hb
    omega
   refine ⟨kd.keep hrd (by omega) (fun blk hb=>old blk (kd.lt hrd hb) (hne blk hb)),fun blk hb=>⟨by have:=hrw blk hb;omega,?_⟩⟩
   rcases hat (Or.inl ⟨blk,hb⟩) with hat | ⟨g,hat,hg⟩
   ·rw [hat];exact hne blk hb
   ·rw [hat];intro e;injection e with e;have:=kd.lt hrd hb;omega
 ·rw [Array.toList_push,List.map_append,List.map_cons,List.map_nil,h.ms,Array.size_push,qcm,hpc]
 ·rw [Array.toList_push] at hy
  rcases List.mem_append.1 hy with hy | hy
  ·exact h.nn y hy
  ·simp at hy;subst hy;exact hnn
theorem DmI.done (h:DmI kd C pc nn T m s st z v W):∃ x:RW α,v=.slice x.A x.z.size x.c∧x.z=z∧RdX kd m x W:=by
 obtain ⟨A,c,hv,h1,h2,h3,h4⟩:=qeo h.own
 exact ⟨⟨A,c,z⟩,hv,rfl,h1,h2,h3,h4,fun i hi=>⟨(h.rd i hi).1,fun blk hb=>((h.rd i hi).2 blk hb).1⟩⟩
theorem DmI.fin {N:Nat} {g:List β} {st':IS} (h:DmI kd C pc nn T m s st z v W) (hk:z.size≤N) (he:z.size=N∨(qan (C.rd s.data.toList) z.size st).1.r.e≠0) (E:qan (C.rd s.data.toList) N st=(st',g)) :
 (qan (C.rd s.data.toList) z.size st).1=st'∧(st'.r.e=0→z.toList.map pc=g∧∀ y ∈ z.toList,nn y):=by
 have e1:(qan (C.rd s.data.toList) N st).1=st':=by rw [E]
 have e2:(qan (C.rd s.data.toList) N st).2=g:=by rw [E]
 rcases he with he | he
 ·subst he
  exact ⟨e1,fun _=>⟨h.ms.trans e2,h.nn⟩⟩
 ·have h1:=manyR_stop (C.stuck s.data.toList) hk he
  rw [e1] at h1
  exact ⟨h1.symm,fun h0=>absurd (by rw [←h1];exact h0) he⟩
theorem DmI.form (h:DmI kd C pc nn T m s st z v W):∃ A c,v=.slice A z.size c:=qdo h.own
theorem DmI.oldB (h:DmI kd C pc nn T m s st z v W):∀ g,v.ownBlock=some g→m≤g:=fun g hg=>(h.own.lt g hg).1
end
theorem qff {P:Program} {w:World} {ops:Array Oper} {o:Oper} {a:Act} {K:Act→World→Prop} {Q:Exit→Act→World→Prop} {E:Prop} (hgd:o.guard=none) (s x:Operand) (t:TypeId)
 (ho:o.op=.call { callee:=.builtin .append,args:=#[s,x],argTypes:=#[t,t] })
 (base:Nat) (e:TypeId) (i:TypeInfo) (z:Value) (size bytes:Nat) (ht:P.underlying t=some (.slice e)) (hi:P.info? e=some i) (hz:i.zero=some z)
 (hsize:i.size=size) (hby:i.bytes=bytes) (hzs:z.cells.size=size) (hsz:0 < size)
 (v:Value) (n:Nat) (xs:List Value) (hs:a.eval s=v) (hown:w.ownsRow base e size v n xs)
 (ad:Addr) (m c:Nat) (news:List Value) (hx:a.eval x=.slice (some ad) m c) (hl:news.length=m * size) (hnews:∀ j u,news[j]?=some u→w.cell? (ad.add j)=some u) (h1:∀ u ∈ news,u.oneCell'=true)
 (h63:n + m≤maxLen) (hbytes:(n + m) * bytes≤140737488355328) (hB:base≤w.heap.size)
 (h:∀ v' w',w'.ownsRow base e size v' (n + m) (xs ++ news)→w.grownBy w' v.ownBlock→(v'.ownBlock=v.ownBlock∨v'.ownBlock=some w.heap.size)→K (a.put o.dst v') w') :
 if Region.wanted o (yielded ops a.tmps)=true then Oper.wp P o a w K Q else E:=by
 have hw:Region.wanted o (yielded ops a.tmps)=true:=by simp [Region.wanted,hgd]
 rw [if_pos hw]
 obtain ⟨v',w',hr,h2,h3,_,h5⟩:=run_append_own_at (P:=P) w base t o.type e i z size bytes ht hi hz hsize hby hzs hsz v n xs hown ad m c news hl hnews h1 h63 hbytes hB
 unfold Oper.wp execOp
 simp only [ho,resolve,invoke,builtin,Sem.run_bind,Sem.run_pure,Result.andThen_ok,List.map_toArray,List.map_cons,List.map_nil,hs,hx,hr]
 exact h v' w' h2 h3 h5
theorem qdy {β:Type} {C:Cod β} {s:List UInt8} {st:IS} {k:Nat} (h:st.r.pos≤s.length):(qan (C.rd s) k st).1.r.pos≤s.length:=(C.vec k).far s st h
theorem qvk {α:Type} {f:IS→IS×α} {s0 s1:IS} {x0:α} (e0:f s0=(s1,x0)):qan f 1 s0=(s1,[x0]):=by
 simp only [qan,e0]
theorem qby (W:World) (g:Nat) (zs cs:Array Value) (hg:W.heap.size=g) (hz:zs.size=6) (hc:cs.size=6) (h1:qbw cs=true) :
 (qja 98 (.pointer (some ⟨g,0,none⟩)) (.agg cs)).run Tryz.prog (W.alloc (.cells zs 98))=.ok () (W.alloc (.cells cs 98)):=by
 subst hg
 exact run_storeAt_new W 98 zs cs (by rw [hc];kernel_rfl) (by rw [hz,hc]) h1
theorem qbb {b off:Nat} {l:List Nat} {W:World} {j:Nat} (f:∀ t,t < (ints l).size→W.cell? ⟨b,off + t,none⟩=some (.int .i64 (ints l)[t]!)) (hj:j < l.length):W.cell? ⟨b,off + j,none⟩=some (.int .i64 ((l.getD j 0:Nat):Int)):=by
 rw [f j (by rw [qao];exact hj),qbo hj]
theorem len2 {l:List Nat} (h:l.length=2):∃ a b,l=[a,b]:=by
 match l,h with
 | [a,b],_=>exact ⟨a,b,rfl⟩
theorem len4 {l:List Nat} (h:l.length=4):∃ a b c d,l=[a,b,c,d]:=by
 match l,h with
 | [a,b,c,d],_=>exact ⟨a,b,c,d,rfl⟩
theorem len8 {l:List Nat} (h:l.length=8):∃ a b c d e f g k,l=[a,b,c,d,e,f,g,k]:=by
 match l,h with
 | [a,b,c,d,e,f,g,k],_=>exact ⟨a,b,c,d,e,f,g,k,rfl⟩
theorem len9 {l:List Nat} (h:l.length=9):∃ a b c d e f g k j,l=[a,b,c,d,e,f,g,k,j]:=by
 match l,h with
 | [a,b,c,d,e,f,g,k,j],_=>exact ⟨a,b,c,d,e,f,g,k,j,rfl⟩
theorem qau {W W':World} {a:Addr} {u:Value} (h:W.cell? a=some u) (hb:W'.heap[a.block]?=W.heap[a.block]?):W'.cell? a=some u:=(World.cell?_of_block hb).trans h
theorem qls {W:World} {o:Option Nat}:∀ i,i < W.heap.size→o≠some i→W.drew.heap[i]?=W.heap[i]?:=fun _ _ _=>rfl
theorem qjw {W:World} {o:Option Nat} (x:Obj):∀ i,i < W.heap.size→o≠some i→(W.drew.alloc x).heap[i]?=W.heap[i]?:=fun i h _=>Below.heap_alloc W.drew x i h
theorem qhg {W W':World} {o:Option Nat} {x:Obj} (hg:(W.drew.alloc x).grownBy W' o):∀ i,i < W.heap.size→o≠some i→W'.heap[i]?=W.heap[i]?:=fun i h1 h2 =>
 (hg.block i (by simp;omega) (fun e=>h2 e.symm)).trans (Below.heap_alloc W.drew x i h1)
theorem KF.ext {m:Nat} {W0 W W':World} (h:KF m W0 W) (hs:W.heap.size≤W'.heap.size) (k:∀ i,m≤i→i < W0.heap.size→W'.heap[i]?=W.heap[i]?):KF m W0 W':=⟨Nat.le_trans h.size hs,fun i h1 h2=>(k i h1 h2).trans (h.block i h1 h2)⟩
theorem KF.grow {m:Nat} {W0 W W':World} {o:Option Nat} (h:KF m W0 W) (hg:W.grownBy W' o) (ho:∀ g,o=some g→W0.heap.size≤g):KF m W0 W' :=
 h.ext hg.size (fun i _ h2=>hg.block i (Nat.lt_of_lt_of_le h2 h.size) (fun e=>by have:=ho _ e.symm;omega))
theorem RdI.below' {w w':World} {A:Option Addr} {d:Array Int} (h:RdI w.heap.size w A d) (hb:Below w.heap.size w w'):RdI w'.heap.size w' A d:=h.far (m:=0) (fun _ _=>Nat.zero_le _) hb.size (fun i _ h2=>hb.block i h2)
theorem qst {w:World} {g i:Nat} (hi:i≠g) (z0 z1 z2 z3 z4 z5:Value):((((((w.setCell ⟨g,0,none⟩ z0).setCell ⟨g,1,none⟩ z1).setCell ⟨g,2,none⟩ z2).setCell ⟨g,3,none⟩ z3).setCell ⟨g,4,none⟩ z4).setCell ⟨g,5,none⟩ z5).heap[i]?=w.heap[i]?:=by
 rw [Below.heap_setCell _ _ _ _ (by exact hi),Below.heap_setCell _ _ _ _ (by exact hi),qbd hi]
theorem heap_s2 {w:World} {g:Nat} {a b:Value} {T:TypeId} (h:w.heap[g]?=some (.cells #[a,b] T (0,0))) (a' b':Value):((w.setCell ⟨g,0,none⟩ a').setCell ⟨g,1,none⟩ b').heap[g]?=some (.cells #[a',b'] T (0,0)):=by
 rw [qaj (qaj h 0 a') 1 b'];rfl
theorem stoUnd:Tryz.prog.underlying 33 = some (.struct (Tryz.prog.fieldsOf 33)):=by kernel_rfl
theorem qsu {W:World} {g:Nat} {cs:Array Value} {T:TypeId} (h:W.heap[g]?=some (.cells cs T (0,0))) (hc:cs.size=2):(loadVar 33 ⟨g,0,none⟩).run Tryz.prog W=.ok (.agg cs) W :=
 run_loadVar_row W g T 33 cs (0,0) _ h stoUnd rfl (by rw [hc];kernel_rfl)
theorem qqq (W:World):W.drew.heap=W.heap:=rfl
def set6 (W:World) (g:Nat) (z0 z1 z2 z3 z4 z5:Value):World:=((((((W.setCell ⟨g,0,none⟩ z0).setCell ⟨g,1,none⟩ z1).setCell ⟨g,2,none⟩ z2).setCell ⟨g,3,none⟩ z3).setCell ⟨g,4,none⟩ z4).setCell ⟨g,5,none⟩ z5).drew
theorem qow {W:World} {g i:Nat} (hi:i≠g) (z0 z1 z2 z3 z4 z5:Value):(set6 W g z0 z1 z2 z3 z4 z5).heap[i]?=W.heap[i]?:=by
 unfold set6
 rw [qqq]
 exact qst hi z0 z1 z2 z3 z4 z5
theorem set6_heap {W:World} {g:Nat} {y0 y1 y2 y3 y4 y5:Value} {T:TypeId} (h:W.heap[g]?=some (.cells #[y0,y1,y2,y3,y4,y5] T (0,0))) (z0 z1 z2 z3 z4 z5:Value):(set6 W g z0 z1 z2 z3 z4 z5).heap[g]?=some (.cells #[z0,z1,z2,z3,z4,z5] T (0,0)):=by
 unfold set6
 rw [qqq]
 exact qfk h z0 z1 z2 z3 z4 z5
theorem KF.set6 {m g:Nat} (hg:g < m) (W:World) (z0 z1 z2 z3 z4 z5:Value):KF m W (set6 W g z0 z1 z2 z3 z4 z5) :=
 KF.drew ((((((KF.of_setCell hg W z0).trans (KF.of_setCell hg _ z1)).trans (KF.of_setCell hg _ z2)).trans (KF.of_setCell hg _ z3)).trans (KF.of_setCell hg _ z4)).trans (KF.of_setCell hg _ z5))
theorem bel_set6 {w a:World} {g:Nat} (h:Below w.heap.size w a) (hg:w.heap.size≤g) (z0 z1 z2 z3 z4 z5:Value):Below w.heap.size w (set6 a g z0 z1 z2 z3 z4 z5):=(qgy h hg z0 z1 z2 z3 z4 z5).drew
end Go.Proofs.YtnmojicfmcbgmaaGreatDoor
namespace Go.Proofs.YtnmojicfmcbgmaaGreatDoor
open Go.RowKit Go.Sort Go.Lib Nb
set_option maxRecDepth 100000
def DStoP (s:ByteArray) (r:IS×(List (List Nat)×List SeT)) (w:World) (e:Ending) (w':World):Prop :=
 ∃ (pc:ByteArray) (A:Option Addr) (n c:Nat) (x:RW IT) (y:RW SS),e=.returned (.tuple #[.agg (dI s r.1 pc (.slice A n c)),.agg #[.slice x.A x.z.size x.c,.slice y.A y.z.size y.c]])∧RdX kdT w.heap.size x w'∧RdX kdS w.heap.size y w' ∧
  (r.1.r.e=0→(x.z.toList.map itM=r.2.1∧∀ t ∈ x.z.toList,nnT t)∧(y.z.toList.map seM=r.2.2∧∀ t ∈ y.z.toList,nnS t))∧Below w.heap.size w w'
structure TsF (s:ByteArray) (w:World) (p1 p2 p3 p4:Nat) (st:IS) (pc:ByteArray) (A:Option Addr) (n c:Nat) (v1 v2:Value) (W:World):Prop where
 x:W.heap[p1]?=some (.cells (dI s st pc (.slice A n c)) 98 (0,0))
 y:W.heap[p2]?=some (.cells dz 98 (0,0))
 z:W.heap[p3]?=some (.cells #[.slice none 0 0,.slice none 0 0] 33 (0,0))
 o:W.heap[p4]?=some (.cells #[v1,v2] 33 (0,0))
 b:Below w.heap.size w W
 q:w.heap.size≤p1∧p1 < p2∧p2 < p3∧p3 < p4
section
variable {s:ByteArray} {w W W':World} {p1 p2 p3 p4:Nat} {st:IS} {pc:ByteArray} {A:Option Addr} {n c:Nat} {v1 v2:Value}
theorem TsF.lt (h:TsF s w p1 p2 p3 p4 st pc A n c v1 v2 W):p4 < W.heap.size:=qaa h.o
theorem TsF.below (h:TsF s w p1 p2 p3 p4 st pc A n c v1 v2 W) (hb:Below W.heap.size W W'):TsF s w p1 p2 p3 p4 st pc A n c v1 v2 W' :=
 ⟨(hb.block _ (qaa h.x)).trans h.x,(hb.block _ (qaa h.y)).trans h.y,(hb.block _ (qaa h.z)).trans h.z,(hb.block _ (qaa h.o)).trans h.o,qac h.b hb,h.q⟩
theorem TsF.grown {g:Option Nat} (h:TsF s w p1 p2 p3 p4 st pc A n c v1 v2 W) (hg:W.grownBy W' g) (ho:∀ x,g=some x→p4 < x):TsF s w p1 p2 p3 p4 st pc A n c v1 v2 W':=by
 have q:=h.q
 refine ⟨qcv hg h.x ?_,qcv hg h.y ?_,qcv hg h.z ?_,qcv hg h.o ?_,h.b.grown hg h.b.size (fun x hx=>by have:=ho x hx;omega),q⟩
 all_goals (intro e;have:=ho _ e;omega)
theorem TsF.set (h:TsF s w p1 p2 p3 p4 st pc A n c v1 v2 W) (st':IS) (pc':ByteArray) (A':Option Addr) (n' c':Nat):TsF s w p1 p2 p3 p4 st' pc' A' n' c' v1 v2 (W.setRow p1 (dI s st' pc' (.slice A' n' c'))):=by
 have q:=h.q
 exact ⟨setRow_heap _ _ _ _ _ _ h.x,(setRow_other _ _ _ _ (by omega)).trans h.y,(setRow_other _ _ _ _ (by omega)).trans h.z,(setRow_other _ _ _ _ (by omega)).trans h.o,qbx h.b q.1 _,q⟩
theorem TsF.set1 (h:TsF s w p1 p2 p3 p4 st pc A n c v1 v2 W) (v:Value):TsF s w p1 p2 p3 p4 st pc A n c v v2 (W.setCell ⟨p4,0,none⟩ v):=by
 have q:=h.q
 exact ⟨(Below.heap_setCell _ _ _ _ (by show _≠p4;omega)).trans h.x,(Below.heap_setCell _ _ _ _ (by show _≠p4;omega)).trans h.y,(Below.heap_setCell _ _ _ _ (by show _≠p4;omega)).trans h.z,qaj h.o 0 v,h.b.setCell (p:=⟨p4,0,none⟩) (by show _≤p4;omega) v,q⟩
theorem TsF.set2 (h:TsF s w p1 p2 p3 p4 st pc A n c v1 v2 W) (v:Value):TsF s w p1 p2 p3 p4 st pc A n c v1 v (W.setCell ⟨p4,1,none⟩ v):=by
 have q:=h.q
 exact ⟨(Below.heap_setCell _ _ _ _ (by show _≠p4;omega)).trans h.x,(Below.heap_setCell _ _ _ _ (by show _≠p4;omega)).trans h.y,(Below.heap_setCell _ _ _ _ (by show _≠p4;omega)).trans h.z,qaj h.o 1 v,h.b.setCell (p:=⟨p4,1,none⟩) (by show _≤p4;omega) v,q⟩
theorem TsF.cells (h:TsF s w p1 p2 p3 p4 st pc A n c v1 v2 W):qgm W p1 6=true∧rowAt W p1=dI s st pc (.slice A n c)∧W.cell? ⟨p1,3,none⟩=some (.int .i64 (st.r.e:Int))∧W.cell? ⟨p1,4,none⟩=some (.slice A n c)∧W.cell? ⟨p4,0,none⟩=some v1∧W.cell? ⟨p4,1,none⟩=some v2 :=
 ⟨qav h.x rfl,qbh h.x,(qab h.x 3).trans rfl,(qab h.x 4).trans rfl,(qab h.o 0).trans rfl,(qab h.o 1).trans rfl⟩
theorem TsF.froz (h:TsF s w p1 p2 p3 p4 st pc A n c v1 v2 W):W.frozen? ⟨p4,0,none⟩=false∧W.frozen? ⟨p4,1,none⟩=false:=⟨Lib.frozen_of_heap h.o 0,Lib.frozen_of_heap h.o 1⟩
end
theorem KF.ts {m p1:Nat} {W W1:World} (hb:Below W.heap.size W W1) (cs:Array Value) (hp:p1 < m):KF m W (W1.setRow p1 cs):=(KF.of_below hb).trans (KF.of_setRow hp W1 cs)
theorem RdI.set {A:Option Addr} {d:Array Int} {W W1:World} {p1:Nat} {cs:Array Value} (h:RdI W1.heap.size W1 A d) (hA:Fr W.heap.size A) (hp:p1 < W.heap.size):RdI (W1.setRow p1 cs).heap.size (W1.setRow p1 cs) A d :=
 h.far hA (by simp) (fun i h1 _=>setRow_other W1 p1 i cs (by omega))
attribute [local go_sem ↓] qfe qej
attribute [local go_sem] qfq qaq qby qbk qcn
set_option maxHeartbeats 8000000 in
theorem qyb (s pc:ByteArray) (st:IS) (A0:Option Addr) (n0 c0:Nat) (w:World) (hp:st.r.pos≤s.size) (hs:s.size≤1000000) :
 Calls Tryz.prog 47 #[.agg (dI s st pc (.slice A0 n0 c0))] w fun e w'=>DStoP s ((((nC.vec 4).list 1000 (by decide)).pair (seC.list 1000 (by decide))).rd s.data.toList st) w e w':=by
 obtain ⟨i0,hi0,hz0,hz1,hz2⟩:=info_parts qne
 obtain ⟨j0,hj0,hy0,hy1,hy2⟩:=info_parts qnf
 have hsl:s.data.toList.length=s.size:=by simp
 rcases e0:(numC 1000 (by decide)).rd s.data.toList st with ⟨st1,m1⟩
 rcases e1:qan ((nC.vec 4).rd s.data.toList) m1 st1 with ⟨st2,g1⟩
 rcases e2:(numC 1000 (by decide)).rd s.data.toList st2 with ⟨st3,m2⟩
 rcases e3:qan (seC.rd s.data.toList) m2 st3 with ⟨st4,g2⟩
 have EE:Hid ((((nC.vec 4).list 1000 (by decide)).pair (seC.list 1000 (by decide))).rd s.data.toList st=(st4,(g1,g2))):=qcb ((qjv e0).trans e1) ((qjv e2).trans e3)
 have HP1:Hid (st1.r.pos≤s.data.toList.length):=by have:=(numC 1000 (by decide)).far s.data.toList st (by rw [hsl];exact hp);rw [e0] at this;exact this
 have HP2:Hid (st2.r.pos≤s.data.toList.length):=by have:=qdy (C:=nC.vec 4) (k:=m1) HP1.out;rw [e1] at this;exact this
 have HP3:Hid (st3.r.pos≤s.data.toList.length):=by have:=(numC 1000 (by decide)).far s.data.toList st2 HP2.out;rw [e2] at this;exact this
 have HM1:=hI (qgx e0)
 have HM2:=hI (qgx e2)
 have B3:Hid (st4.r.e=0→st3.r.e=0):=qbn (c:=seC.vec m2) e3
 have B2:Hid (st4.r.e=0→st2.r.e=0):=fun h0=>qbn e2 (B3.out h0)
 have HN1:Hid (∀ W,Calls Tryz.prog 42 #[.agg (dI s st pc (.slice A0 n0 c0)),.int .i64 1,.int .i64 1000] W fun e w'=>qiz s 1 (st1,[m1]) W e w'):=fun W=>by
  have:=qep s pc st A0 n0 c0 1 1000 (by decide) W hp hs (by decide)
  rw [qvk e0] at this
  exact this
 have HN2:Hid (∀ (pc:ByteArray) A n c W,Calls Tryz.prog 42 #[.agg (dI s st2 pc (.slice A n c)),.int .i64 1,.int .i64 1000] W fun e w'=>qiz s 1 (st3,[m2]) W e w'):=fun pc A n c W=>by
  have:=qep s pc st2 A n c 1 1000 (by decide) W (by rw [←hsl];exact HP2.out) hs (by decide)
  rw [qvk e2] at this
  exact this
 have HNM:Hid (∀ (pc:ByteArray) (x:IS) (m:Nat) A n c W,m≤9→x.r.pos≤s.data.toList.length→Calls Tryz.prog 42 #[.agg (dI s x pc (.slice A n c)),.int .i64 m,.int .i64 1000000] W fun e w'=>qiz s m (qan (nC.rd s.data.toList) m x) W e w'):=fun pc x m A n c W h9 h=>qep s pc x A n c m 1000000 (by decide) W (by rw [←hsl];exact h) hs h9
 have HTX:Hid (∀ (pc:ByteArray) (x:IS) A n c W,x.r.pos≤s.data.toList.length→Calls Tryz.prog 94 #[.agg (dI s x pc (.slice A n c))] W fun e w'=>(∃ pc',e=.returned (.tuple #[.agg (dI s ((qif 300 (by decide)).rd s.data.toList x).1 pc' (.slice A n c)),.string ⟨((qif 300 (by decide)).rd s.data.toList x).2.toArray⟩]))∧Below W.heap.size W w'):=fun pc x A n c W h=>qqo s pc x A n c W (by rw [←hsl];exact h) hs
 have E1:Hid (qan ((nC.vec 4).rd s.data.toList) m1 st1=(st2,g1)):=e1
 have E3:Hid (qan (seC.rd s.data.toList) m2 st3=(st4,g2)):=e3
 rw [EE.out]
 clear e0 e1 e2 e3 hp hs hsl EE
 obtain ⟨X0,hX0⟩:∃ y,y=dI s st pc (.slice A0 n0 c0):=⟨_,rfl⟩
 rw [←hX0]
 have HX0:=hI hX0
 have hXs:X0.size=6:=by rw [hX0];rfl
 clear hX0
 go_enter Tryz.func47,Tryz.ntmps47
 go_upto_region 2 with (fail)
 obtain ⟨wI,hwI⟩:∃ W,W=((((w.alloc (.cells X0 98)).alloc (.cells #[.string ⟨#[]⟩,.int .i64 0,.string ⟨#[]⟩,.int .i64 0,.slice none 0 0,.bool false] 98)).alloc (.cells #[.slice none 0 0,.slice none 0 0] 33)).alloc (.cells #[.slice none 0 0,.slice none 0 0] 33)):=⟨_,rfl⟩
 obtain ⟨p1,hp1⟩:∃ p,p=w.heap.size:=⟨_,rfl⟩
 obtain ⟨p2,hp2⟩:∃ p,p=w.heap.size + 1:=⟨_,rfl⟩
 obtain ⟨p3,hp3⟩:∃ p,p=w.heap.size + 1 + 1:=⟨_,rfl⟩
 obtain ⟨p4,hp4⟩:∃ p,p=w.heap.size + 1 + 1 + 1:=⟨_,rfl⟩
 have F0:Hid (TsF s w p1 p2 p3 p4 st pc A0 n0 c0 (.slice none 0 0) (.slice none 0 0) wI):=by
  show TsF _ _ _ _ _ _ _ _ _ _ _ _ _ _
  rw [hwI,hp1,hp2,hp3,hp4,HX0.out]
  exact ⟨qay (qay (qay (qah w _) _) _) _,qay (qay (qcg w _ _) _) _,qay (qgd w _ _ _) _,qia w _ _ _ _,qad (qad (qad (bel1 w _) _) _) _,Nat.le_refl _,Nat.lt_succ_self _,Nat.lt_succ_self _,Nat.lt_succ_self _⟩
 have HM:Hid (p4 + 1=wI.heap.size):=by show _=_;rw [hwI,hp4];simp
 rw [←hwI,←hp4,←hp3,←hp2,←hp1]
 clear hwI hp1 hp2 hp3 hp4 hXs HX0
 obtain ⟨x1,x2,z3,z4,o0,o1⟩:=F0.out.cells
 go_wp2_with fail
 refine (HN1.out _).mono ?_
 rintro _ w1 ⟨pc1,A1,c1,rfl,hrd1,hnc1,hfr1,hb1⟩
 clear x1 x2 z3 z4 o0 o1
 dsimp only at hrd1 ⊢
 have F1:=hI (F0.out.below hb1)
 obtain ⟨x1,x2,z3,z4,o0,o1⟩:=F1.out.cells
 have hst:=qaq w1 p1 (dI s st1 pc1 (.slice A1 1 c1)) x1 (qbk _ _ _ _) (qcn _ _ _ _ _ _)
 go_upto_region 3 with (fail)
 clear hst
 have F2:=hI (F1.out.set st1 pc1 A1 1 c1)
 have R2:=hI (RdI.set (p1:=p1) (cs:=dI s st1 pc1 (.slice A1 1 c1)) hrd1 hfr1 (by have:=F0.out.q;have:=F0.out.lt;omega))
 have LM:Hid (p4 + 1≤w1.heap.size):=by have:=F1.out.lt;exact this
 obtain ⟨w2,hw2⟩:∃ W,W=w1.setRow p1 (dI s st1 pc1 (.slice A1 1 c1)):=⟨_,rfl⟩
 rw [←hw2] at F2 R2 ⊢
 clear hw2 x1 x2 z3 z4 o0 o1 hrd1 hnc1 hfr1 hb1 F1 F0
 obtain ⟨b1,off,rfl,hbl,f⟩:=R2.out (by rw [qao];simp)
 have a0:=qbb (j:=0) f (by simp)
 obtain ⟨x1,x2,z3,z4,o0,o1⟩:=F2.out.cells
 simp only [List.getD_cons_zero,Nat.add_zero] at a0
 clear f
 go_upto_block 0 with fail
 clear x1 x2 z3 z4 o0 o1 a0 hbl R2
 go_cut [5] from 16 to 49 (fun _ wx=>∃ (z:Array IT) (v:Value) (pc:ByteArray) (A:Option Addr) (n c:Nat),Hid (z.size≤m1∧(z.size=m1∨(qan ((nC.vec 4).rd s.data.toList) z.size st1).1.r.e≠0))∧Hid (TsF s w p1 p2 p3 p4 (qan ((nC.vec 4).rd s.data.toList) z.size st1).1 pc A n c v (.slice none 0 0) wx)∧Hid (DmI kdT (nC.vec 4) itM nnT 84 (p4 + 1) s st1 z v wx))
 case first =>
  go_wp2_with fail
  go_loopw [5] (fun i W=>∃ (d:Nat) (z:Array IT) (v:Value) (pc:ByteArray) (A:Option Addr) (n c:Nat),i=.int .i64 (d:Int)∧Hid (d + z.size=m1)∧d≤1000∧Hid (TsF s w p1 p2 p3 p4 (qan ((nC.vec 4).rd s.data.toList) z.size st1).1 pc A n c v (.slice none 0 0) W)∧Hid (DmI kdT (nC.vec 4) itM nnT 84 (p4 + 1) s st1 z v W)) (fun i _=>(intOf i).toNat)
  case atStart=>exact ⟨m1,#[],.slice none 0 0,_,_,_,_,rfl,hI (by simp),HM1.out,F2,hI DmI.start⟩
  case round =>
   obtain ⟨d,z,v,pk,Ak,nk,ck,rfl,HD,hd,HF,HDm⟩:=hrel
   obtain ⟨stk,hstk⟩:∃ e,(qan ((nC.vec 4).rd s.data.toList) z.size st1).1=e:=⟨_,rfl⟩
   have HSK:=hI hstk
   rw [hstk] at HF
   have HPS:Hid (stk.r.pos≤s.data.toList.length):=by have:=qdy (C:=nC.vec 4) (k:=z.size) HP1.out;rw [hstk] at this;exact this
   clear hstk
   obtain ⟨x1,x2,z3,z4,o0,o1⟩:=HF.out.cells
   by_cases h0:d=0
   ·subst h0
    clear z3 z4 o0 o1 x1 x2
    go_wp2
    go_meet
    exact ⟨z,v,pk,Ak,nk,ck,hI ⟨by have:=HD.out;omega,Or.inl (by have:=HD.out;omega)⟩,by rw [HSK.out];exact HF,HDm⟩
   ·have kz:(0:Int) < (d:Int):=by omega
    have kn:0 < d:=by omega
    by_cases hE:stk.r.e=0
    ·have z3':wr.cell? ⟨p1,3,none⟩=some (.int .i64 0):=by rw [z3,hE];rfl
     clear z3
     have HPk:Hid (stk.r.pos≤s.data.toList.length):=HPS
     rcases hx:qan (nC.rd s.data.toList) 4 stk with ⟨stn,ln⟩
     obtain ⟨y0,y1,y2,y3,rfl⟩:=len4 (l:=ln) (by have:=qet (nC.rd s.data.toList) 4 stk;rw [hx] at this;exact this)
     have HX:=hI hx
     have HNk:Hid (∀ W,Calls Tryz.prog 42 #[.agg (dI s stk pk (.slice Ak nk ck)),.int .i64 4,.int .i64 1000000] W fun e w'=>qiz s 4 (stn,[y0,y1,y2,y3]) W e w'):=fun W=>by
      have:=HNM.out pk stk 4 Ak nk ck W (by decide) HPk.out
      rw [hx] at this
      exact this
     have hzs:z.size≤1000:=by have:=HD.out;have:=HM1.out;omega
     clear hx hE
     go_wp2_with fail
     refine (HNk.out _).mono ?_
     rintro _ w1 ⟨pc2,A1,c1,rfl,hrd1,hnc1,hfr1,hb1⟩
     dsimp only at hrd1 ⊢
     clear x1 x2 z3' z4 o0 o1 HNk hnc1
     have F1:=hI (HF.out.below hb1)
     obtain ⟨x1,x2,z3,z4,o0,o1⟩:=F1.out.cells
     have hst:=qaq w1 p1 (dI s stn pc2 (.slice A1 4 c1)) x1 (qbk _ _ _ _) (qcn _ _ _ _ _ _)
     go_upto_region 7 with (fail)
     clear hst x1 x2 z3 z4 o0 o1
     have F2:=hI (F1.out.set stn pc2 A1 4 c1)
     have R2:=hI (RdI.set (p1:=p1) (cs:=dI s stn pc2 (.slice A1 4 c1)) hrd1 hfr1 (by have:=HF.out.q;have:=HF.out.lt;omega))
     have K2:Hid (KF (p4 + 1) wr (w1.setRow p1 (dI s stn pc2 (.slice A1 4 c1)))):=KF.ts hb1 _ (by have:=HF.out.q;omega)
     have HFA:=hI hfr1
     have LM:Hid (p4 + 1≤wr.heap.size):=by have:=HF.out.lt;exact this
     obtain ⟨w2,hw2⟩:∃ W,W=w1.setRow p1 (dI s stn pc2 (.slice A1 4 c1)):=⟨_,rfl⟩
     rw [←hw2] at F2 R2 K2 ⊢
     clear hw2 hrd1 hfr1 hb1 F1
     obtain ⟨b1,off,rfl,hbl,f⟩:=R2.out (by rw [qao];simp)
     have hbn:wr.heap.size≤b1:=HFA.out ⟨b1,off,none⟩ rfl
     have hvn:v.ownBlock≠some b1:=fun e=>by have:=(HDm.out.own.lt b1 e).2;omega
     have hv4:v.ownBlock≠some p4:=fun e=>by have:=HDm.out.oldB p4 e;omega
     have hv1:v.ownBlock≠some p1:=fun e=>by have:=HDm.out.oldB p1 e;have:=HF.out.q;omega
     obtain ⟨x1,x2,z3,z4,o0,o1⟩:=F2.out.cells
     have KS:Hid (∀ W:World,(∀ i,i < w2.heap.size→v.ownBlock≠some i→W.heap[i]?=w2.heap[i]?)→W.cell? ⟨p1,4,none⟩=some (.slice (some ⟨b1,off,none⟩) 4 c1)∧W.cell? ⟨p4,0,none⟩=some v∧W.cell? ⟨b1,off,none⟩=some (.int .i64 (y0:Int))∧W.cell? ⟨b1,off + 1,none⟩=some (.int .i64 (y1:Int))∧W.cell? ⟨b1,off + 2,none⟩=some (.int .i64 (y2:Int))∧W.cell? ⟨b1,off + 3,none⟩=some (.int .i64 (y3:Int))):=fun W hst =>
      ⟨qau z4 (hst p1 (qaa F2.out.x) hv1),qau o0 (hst p4 F2.out.lt hv4),qau (qbb (j:=0) f (by simp)) (hst b1 hbl hvn),qau (qbb (j:=1) f (by simp)) (hst b1 hbl hvn),qau (qbb (j:=2) f (by simp)) (hst b1 hbl hvn),qau (qbb (j:=3) f (by simp)) (hst b1 hbl hvn)⟩
     have hown2:=qbj (HDm.out.kf K2.out).own (qad (Below.refl w2.heap.size w2).drew (.cells #[.int .i64 (y0:Int),.int .i64 (y1:Int),.int .i64 (y2:Int),.int .i64 (y3:Int)] 84))
     clear x1 x2 z3 z4 o0 o1 f hbl hbn hvn hv4 hv1
     go_wp2_with fail
     refine qat (S:=fun W=>W.cell? ⟨p1,4,none⟩=some (.slice (some ⟨b1,off,none⟩) 4 c1)∧W.cell? ⟨p4,0,none⟩=some v∧W.cell? ⟨b1,off,none⟩=some (.int .i64 (y0:Int))∧W.cell? ⟨b1,off + 1,none⟩=some (.int .i64 (y1:Int))∧W.cell? ⟨b1,off + 2,none⟩=some (.int .i64 (y2:Int))∧W.cell? ⟨b1,off + 3,none⟩=some (.int .i64 (y3:Int))) (by kernel_rfl) ?_
     have hS:=KS.out _ qls
     refine tkF 28 0 rfl rfl hS ?_
     simp only [Act.put,sA,s0,s1]
     refine tkF 29 1 rfl rfl hS ?_
     simp only [Act.put,sA,s0,s1]
     refine tkF 30 2 rfl rfl hS ?_
     simp only [Act.put,sA,s0,s1]
     refine tkF 31 3 rfl rfl hS ?_
     simp only [Act.put,sA,s0,s1]
     refine tkF 32 4 rfl rfl hS ?_
     simp only [Act.put,sA,s0,s1]
     refine tkF 33 5 rfl rfl hS ?_
     simp only [Act.put,sA,s0,s1]
     refine tkF 34 6 rfl rfl hS ?_
     simp only [Act.put,sA,s0,s1]
     refine tkF 35 7 rfl rfl hS ?_
     simp only [Act.put,sA,s0,s1]
     refine tkF 36 8 rfl rfl hS ?_
     simp only [Act.put,sA,s0,s1]
     refine tkF 37 9 rfl rfl hS ?_
     simp only [Act.put,sA,s0,s1]
     refine tkF 38 10 rfl rfl hS ?_
     simp only [Act.put,sA,s0,s1]
     refine tkF 39 11 rfl rfl hS ?_
     simp only [Act.put,sA,s0,s1]
     refine tkF 40 12 rfl rfl hS ?_
     simp only [Act.put,sA,s0,s1]
     refine tkF 41 13 rfl rfl hS ?_
     simp only [Act.put,sA,s0,s1]
     refine tkF 42 14 rfl rfl hS ?_
     simp only [Act.put,sA,s0,s1]
     refine tkF 43 15 rfl rfl hS ?_
     simp only [Act.put,sA,s0,s1]
     refine tkF 44 16 rfl rfl hS ?_
     simp only [Act.put,sA,s0,s1]
     refine tkF 45 17 rfl rfl hS ?_
     simp only [Act.put,sA,s0,s1]
     refine tkF 46 18 rfl rfl hS ?_
     simp only [Act.put,sA,s0,s1]
     refine rdy1 19 rfl (fun K hK=>?_)
     go_simp
     refine hK.out _ _ (KS.out _ (qjw _)) (fun _=>?_)
     clear hK K hS
     refine rdy1 20 rfl (fun K hK=>?_)
     refine qff (by rfl) _ _ _ (by rfl) (p4 + 1) 84 i0 (.agg #[.int .i64 0,.int .i64 0,.int .i64 0,.int .i64 0]) 4 32 Tryz.underlying30 hi0 hz0 hz1 hz2 rfl (by decide) _ z.size (flatK qdc 4 z).toList (by rfl) hown2 ⟨w2.heap.size,0,none⟩ 1 1 [.int .i64 (y0:Int),.int .i64 (y1:Int),.int .i64 (y2:Int),.int .i64 (y3:Int)] (by rfl) (by rfl) (qeg (qah w2.drew _)) (by simp [Value.oneCell']) (by unfold maxLen;omega) (by omega) (by have:=K2.out.size;have:=LM.out;simp;omega) ?_
     intro v' w5 hown5 hgrow5 hat5
     obtain ⟨Av,cv,rfl⟩:=qdo hown5
     have F5:Hid (TsF s w p1 p2 p3 p4 stn pc2 (some ⟨b1,off,none⟩) 4 c1 v (.slice none 0 0) w5):=((F2.out.below (Below.refl _ _).drew).below (bel1 w2.drew _)).grown hgrow5 (fun g e=>by have:=HDm.out.oldB g e;omega)
     have D5:Hid (DmI kdT (nC.vec 4) itM nnT 84 (p4 + 1) s st1 (z.push ⟨(y0:Int),(y1:Int),(y2:Int),(y3:Int)⟩) (.slice Av (z.size + 1) cv) w5):=by
      refine HDm.out.step (K2.out.drew.trans (KF.of_below (bel1 w2.drew _))) trivial (fun _ h=>h.elim) LM.out ?_ ?_ hown5 hgrow5 ?_
      ·rw [HSK.out]
       show _=(qan (nC.rd s.data.toList) 4 stk).2
       rw [HX.out]
       rfl
      ·unfold nnT;simp only;omega
      ·rintro (⟨_,h⟩ | ⟨_,_,_,h⟩) <;> exact (show False from h).elim
     have KS5:=KS.out _ (qhg hgrow5)
     refine hK.out _ _ KS5 (fun _=>?_)
     clear hK K
     have hS:=KS5
     refine tkF 49 21 rfl rfl hS ?_
     simp only [Act.put,List.setIfInBounds_toArray]
     clear hS KS5 hown5 hgrow5 hat5 hown2 KS
     obtain ⟨x1,x2,z3,z4,o0,o1⟩:=F5.out.cells
     have f0:=F5.out.froz.1
     have hl:=F5.out.lt
     refine rdyL 22 rfl (fun K hK=>?_)
     go_simp
     refine hK.out _ _ ?_
     clear hK K x1 x2 z3 z4 o0 o1 f0 hl
     refine qas (by kernel_rfl) ?_ _
     go_wp2
     go_roundw
     case rel =>
      refine ⟨d - 1,z.push ⟨(y0:Int),(y1:Int),(y2:Int),(y3:Int)⟩,.slice Av (z.size + 1) cv,pc2,some ⟨b1,off,none⟩,4,c1,by go_num,hI (by have:=HD.out;rw [Array.size_push];omega),by omega,?_,hI (D5.out.kf (KF.of_setCell (by show p4 < p4 + 1;omega) _ _))⟩
      have e:(qan ((nC.vec 4).rd s.data.toList) (z.push ⟨(y0:Int),(y1:Int),(y2:Int),(y3:Int)⟩:Array IT).size st1).1=stn:=by
       rw [Array.size_push,qcm,HSK.out]
       show (qan (nC.rd s.data.toList) 4 stk).1=_
       rw [HX.out]
      rw [e]
      exact hI (F5.out.set1 _)
     case measure=>simp [intOf];omega
    ·have HE:=hI hE
     obtain ⟨ek,hek⟩:∃ e,stk.r.e=e:=⟨_,rfl⟩
     rw [hek] at z3 hE
     have hne:((ek:Int) == 0)=false:=by simpa using hE
     clear hek hE x1 x2 z4 o0 o1
     go_wp2
     go_meet
     exact ⟨z,v,pk,Ak,nk,ck,hI ⟨by have:=HD.out;omega,Or.inr (by rw [HSK.out];exact HE.out)⟩,by rw [HSK.out];exact HF,HDm⟩
 case rest =>
  obtain ⟨z,v,pk,Ak,nk,ck,HK,HF,HDm⟩:=hcut
  obtain ⟨hf1,hf2⟩:=HDm.out.fin HK.out.1 HK.out.2 E1.out
  rw [hf1] at HF
  have V1:Hid (st2.r.e=0→z.toList.map itM=g1∧∀ y ∈ z.toList,nnT y):=hf2
  clear hf1 hf2 HK
  obtain ⟨Az,cz,rfl⟩:=HDm.out.form
  obtain ⟨x1,x2,z3,z4,o0,o1⟩:=HF.out.cells
  go_wp2_with fail
  refine (HN2.out _ _ _ _ _).mono ?_
  rintro _ w1 ⟨pc1,A1,c1,rfl,hrd1,hnc1,hfr1,hb1⟩
  dsimp only at hrd1 ⊢
  clear x1 x2 z3 z4 o0 o1
  have F1:=hI (HF.out.below hb1)
  obtain ⟨x1,x2,z3,z4,o0,o1⟩:=F1.out.cells
  have hst:=qaq w1 p1 (dI s st3 pc1 (.slice A1 1 c1)) x1 (qbk _ _ _ _) (qcn _ _ _ _ _ _)
  go_upto_region 9 with (fail)
  clear hst x1 x2 z3 z4 o0 o1
  have F2:=hI (F1.out.set st3 pc1 A1 1 c1)
  have R2:=hI (RdI.set (p1:=p1) (cs:=dI s st3 pc1 (.slice A1 1 c1)) hrd1 hfr1 (by have:=HF.out.q;have:=HF.out.lt;omega))
  have D2:=hI (HDm.out.kf (KF.ts hb1 (dI s st3 pc1 (.slice A1 1 c1)) (by have:=HF.out.q;omega:p1 < p4 + 1)))
  obtain ⟨wJ,hwJ⟩:∃ W,W=w1.setRow p1 (dI s st3 pc1 (.slice A1 1 c1)):=⟨_,rfl⟩
  rw [←hwJ] at F2 R2 D2 ⊢
  clear hwJ hrd1 hnc1 hfr1 hb1 F1 HF HDm
  obtain ⟨b2,of2,rfl,hbl,f⟩:=R2.out (by rw [qao];simp)
  have a0:=qbb (j:=0) f (by simp)
  obtain ⟨x1,x2,z3,z4,o0,o1⟩:=F2.out.cells
  simp only [List.getD_cons_zero,Nat.add_zero] at a0
  clear f
  go_upto_block 2 with fail
  clear x1 x2 z3 z4 o0 o1 a0 hbl R2
  have F2J:=F2
  go_cut [6] from 56 to 88 (fun _ wx=>∃ (z2:Array SS) (v:Value) (pc:ByteArray) (A:Option Addr) (n c:Nat),Hid (z2.size≤m2∧(z2.size=m2∨(qan (seC.rd s.data.toList) z2.size st3).1.r.e≠0))∧Hid (TsF s w p1 p2 p3 p4 (qan (seC.rd s.data.toList) z2.size st3).1 pc A n c (.slice Az z.size cz) v wx)∧Hid (DmI kdS seC seM nnS 86 wJ.heap.size s st3 z2 v wx)∧Hid (KF (p4 + 1) wJ wx))
  case first =>
   go_wp2_with fail
   go_loopw [6] (fun i W=>∃ (d:Nat) (z2:Array SS) (v:Value) (pc:ByteArray) (A:Option Addr) (n c:Nat),i=.int .i64 (d:Int)∧Hid (d + z2.size=m2)∧d≤1000∧Hid (TsF s w p1 p2 p3 p4 (qan (seC.rd s.data.toList) z2.size st3).1 pc A n c (.slice Az z.size cz) v W)∧Hid (DmI kdS seC seM nnS 86 wJ.heap.size s st3 z2 v W)∧Hid (KF (p4 + 1) wJ W)) (fun i _=>(intOf i).toNat)
   case atStart=>exact ⟨m2,#[],.slice none 0 0,_,_,_,_,rfl,hI (by simp),HM2.out,F2,hI DmI.start,hI (KF.refl _ _)⟩
   case round =>
    obtain ⟨d,z2,v,pk,Ak,nk,ck,rfl,HD,hd,HF,HDm,HKJ⟩:=hrel
    obtain ⟨stk,hstk⟩:∃ e,(qan (seC.rd s.data.toList) z2.size st3).1=e:=⟨_,rfl⟩
    have HSK:=hI hstk
    rw [hstk] at HF
    have HPS:Hid (stk.r.pos≤s.data.toList.length):=by have:=qdy (C:=seC) (k:=z2.size) HP3.out;rw [hstk] at this;exact this
    clear hstk
    obtain ⟨x1,x2,z3,z4,o0,o1⟩:=HF.out.cells
    by_cases h0:d=0
    ·subst h0
     clear z3 z4 o0 o1 x1 x2
     go_wp2
     go_meet
     exact ⟨z2,v,pk,Ak,nk,ck,hI ⟨by have:=HD.out;omega,Or.inl (by have:=HD.out;omega)⟩,by rw [HSK.out];exact HF,HDm,HKJ⟩
    ·have kz:(0:Int) < (d:Int):=by omega
     have kn:0 < d:=by omega
     by_cases hE:stk.r.e=0
     ·have z3':wr.cell? ⟨p1,3,none⟩=some (.int .i64 0):=by rw [z3,hE];rfl
      clear z3
      rcases hx:qan (nC.rd s.data.toList) 2 stk with ⟨stn,ln⟩
      obtain ⟨y0,y1,rfl⟩:=len2 (l:=ln) (by have:=qet (nC.rd s.data.toList) 2 stk;rw [hx] at this;exact this)
      rcases ht:(qif 300 (by decide)).rd s.data.toList stn with ⟨stx,tx⟩
      have HX:Hid (seC.rd s.data.toList stk=(stx,([y0,y1],tx))):=qcb hx ht
      have HNk:Hid (∀ W,Calls Tryz.prog 42 #[.agg (dI s stk pk (.slice Ak nk ck)),.int .i64 2,.int .i64 1000000] W fun e w'=>qiz s 2 (stn,[y0,y1]) W e w'):=fun W=>by
       have:=HNM.out pk stk 2 Ak nk ck W (by decide) HPS.out
       rw [hx] at this
       exact this
      have HPN:Hid (stn.r.pos≤s.data.toList.length):=by have:=qdy (C:=nC) (k:=2) HPS.out;rw [hx] at this;exact this
      have HTk:Hid (∀ (pc:ByteArray) A n c W,Calls Tryz.prog 94 #[.agg (dI s stn pc (.slice A n c))] W fun e w'=>(∃ pc',e=.returned (.tuple #[.agg (dI s stx pc' (.slice A n c)),.string ⟨tx.toArray⟩]))∧Below W.heap.size W w'):=fun pc A n c W=>by
       have:=HTX.out pc stn A n c W HPN.out
       rw [ht] at this
       exact this
      have hzs:z2.size≤1000:=by have:=HD.out;have:=HM2.out;omega
      clear hx ht hE
      go_wp2_with fail
      refine (HNk.out _).mono ?_
      rintro _ w1 ⟨pc2,A1,c1,rfl,hrd1,hnc1,hfr1,hb1⟩
      dsimp only at hrd1 ⊢
      clear x1 x2 z3' z4 o0 o1 HNk hnc1
      have F1:=hI (HF.out.below hb1)
      obtain ⟨x1,x2,z3,z4,o0,o1⟩:=F1.out.cells
      have hst:=qaq w1 p1 (dI s stn pc2 (.slice A1 2 c1)) x1 (qbk _ _ _ _) (qcn _ _ _ _ _ _)
      go_upto_region 13 with (fail)
      clear hst x1 x2 z3 z4 o0 o1
      have F2:=hI (F1.out.set stn pc2 A1 2 c1)
      have R2:=hI (RdI.set (p1:=p1) (cs:=dI s stn pc2 (.slice A1 2 c1)) hrd1 hfr1 (by have:=HF.out.q;have:=HF.out.lt;omega))
      have HJ4:Hid (p4 < wJ.heap.size∧p1 < wJ.heap.size∧wJ.heap.size≤wr.heap.size):=⟨F2J.out.lt,by have:=F2J.out.q;have:=F2J.out.lt;omega,HKJ.out.size⟩
      have K2:Hid (KF wJ.heap.size wr (w1.setRow p1 (dI s stn pc2 (.slice A1 2 c1)))):=KF.ts hb1 _ HJ4.out.2.1
      have J2:Hid (KF (p4 + 1) wJ (w1.setRow p1 (dI s stn pc2 (.slice A1 2 c1)))):=HKJ.out.trans (KF.ts hb1 _ (by have:=HF.out.q;omega))
      have HFA:=hI hfr1
      obtain ⟨w2,hw2⟩:∃ W,W=w1.setRow p1 (dI s stn pc2 (.slice A1 2 c1)):=⟨_,rfl⟩
      rw [←hw2] at F2 R2 K2 J2 ⊢
      clear hw2 hrd1 hfr1 hb1 F1
      obtain ⟨x1,x2,z3,z4,o0,o1⟩:=F2.out.cells
      go_wp2_with fail
      refine (HTk.out _ _ _ _ _).mono ?_
      rintro _ w3 ⟨⟨pc3,rfl⟩,hb3⟩
      clear x1 x2 z3 z4 o0 o1 HTk
      have F3:=hI (F2.out.below hb3)
      have R3:=hI (R2.out.below' hb3)
      have K3:=hI (K2.out.trans (KF.of_below hb3))
      have J3:=hI (J2.out.trans (KF.of_below hb3))
      have hst:=qby w3 w3.heap.size #[.string ⟨#[]⟩,.int .i64 0,.string ⟨#[]⟩,.int .i64 0,.slice none 0 0,.bool false] (dI s stx pc3 (.slice A1 2 c1)) rfl rfl (qbk _ _ _ _) (qcn _ _ _ _ _ _)
      go_upto_region 15 with (fail)
      clear hst
      have hb4:=bel1 w3 (.cells (dI s stx pc3 (.slice A1 2 c1)) 98)
      have Q4:Hid ((w3.alloc (.cells (dI s stx pc3 (.slice A1 2 c1)) 98)).heap[w3.heap.size]?=some (.cells (dI s stx pc3 (.slice A1 2 c1)) 98 (0,0))):=qah w3 _
      have F4:=hI (F3.out.below hb4)
      have R4:=hI (R3.out.below' hb4)
      have K4:=hI (K3.out.trans (KF.of_below hb4))
      have J4:=hI (J3.out.trans (KF.of_below hb4))
      obtain ⟨w4,hw4⟩:∃ W,W=w3.alloc (.cells (dI s stx pc3 (.slice A1 2 c1)) 98):=⟨_,rfl⟩
      obtain ⟨q,hq⟩:∃ p,p=w3.heap.size:=⟨_,rfl⟩
      rw [←hq] at Q4 ⊢
      rw [←hw4] at Q4 F4 R4 K4 J4 ⊢
      clear hw4 hq hb3 hb4 F3 R3 K3 J3 F2 R2 K2 J2
      obtain ⟨x1,x2,z3,z4,o0,o1⟩:=F4.out.cells
      have q1:=qav Q4.out (qbk _ _ _ _)
      have q2:=qbh Q4.out
      have hst:=qaq w4 p1 (dI s stx pc3 (.slice A1 2 c1)) x1 (qbk _ _ _ _) (qcn _ _ _ _ _ _)
      go_upto_region 16 with (fail)
      clear hst x1 x2 z3 z4 o0 o1 q1 q2
      have F5:=hI (F4.out.set stx pc3 A1 2 c1)
      have R5:=hI (R4.out.far (m:=wr.heap.size) (w':=w4.setRow p1 (dI s stx pc3 (.slice A1 2 c1))) HFA.out (by simp) (fun i h1 _=>setRow_other w4 p1 i _ (by have:=HJ4.out;omega)))
      have K5:=hI (K4.out.trans (KF.of_setRow HJ4.out.2.1 w4 (dI s stx pc3 (.slice A1 2 c1))))
      have J5:=hI (J4.out.trans (KF.of_setRow (by have:=F4.out.q;omega:p1 < p4 + 1) w4 (dI s stx pc3 (.slice A1 2 c1))))
      obtain ⟨w5,hw5⟩:∃ W,W=w4.setRow p1 (dI s stx pc3 (.slice A1 2 c1)):=⟨_,rfl⟩
      rw [←hw5] at F5 R5 K5 J5 ⊢
      clear hw5 Q4 F4 R4 K4 J4
      obtain ⟨b1,off,rfl,hbl,f⟩:=R5.out (by rw [qao];simp)
      have hbn:wr.heap.size≤b1:=HFA.out ⟨b1,off,none⟩ rfl
      have hvn:v.ownBlock≠some b1:=fun e=>by have:=(HDm.out.own.lt b1 e).2;omega
      have hv4:v.ownBlock≠some p4:=fun e=>by have:=HDm.out.oldB p4 e;have:=HJ4.out;omega
      obtain ⟨x1,x2,z3,z4,o0,o1⟩:=F5.out.cells
      have KS:Hid (∀ W:World,(∀ i,i < w5.heap.size→v.ownBlock≠some i→W.heap[i]?=w5.heap[i]?)→W.cell? ⟨p4,1,none⟩=some v∧W.cell? ⟨b1,off,none⟩=some (.int .i64 (y0:Int))∧W.cell? ⟨b1,off + 1,none⟩=some (.int .i64 (y1:Int))):=fun W hst =>
       ⟨qau o1 (hst p4 F5.out.lt hv4),qau (qbb (j:=0) f (by simp)) (hst b1 hbl hvn),qau (qbb (j:=1) f (by simp)) (hst b1 hbl hvn)⟩
      have hown2:=qbj (HDm.out.kf K5.out).own (qad (Below.refl w5.heap.size w5).drew (.cells #[.int .i64 (y0:Int),.int .i64 (y1:Int),.string ⟨tx.toArray⟩] 86))
      clear x1 x2 z3 z4 o0 o1 f hbl hbn hvn hv4
      go_wp2_with fail
      refine qat (S:=fun W=>W.cell? ⟨p4,1,none⟩=some v∧W.cell? ⟨b1,off,none⟩=some (.int .i64 (y0:Int))∧W.cell? ⟨b1,off + 1,none⟩=some (.int .i64 (y1:Int))) (by kernel_rfl) ?_
      have hS:=KS.out _ qls
      refine tkF 76 0 rfl rfl hS ?_
      simp only [Act.put,sA,s0,s1]
      refine tkF 77 1 rfl rfl hS ?_
      simp only [Act.put,sA,s0,s1]
      refine tkF 78 2 rfl rfl hS ?_
      simp only [Act.put,sA,s0,s1]
      refine tkF 79 3 rfl rfl hS ?_
      simp only [Act.put,sA,s0,s1]
      refine tkF 80 4 rfl rfl hS ?_
      simp only [Act.put,sA,s0,s1]
      refine tkF 81 5 rfl rfl hS ?_
      simp only [Act.put,sA,s0,s1]
      refine tkF 82 6 rfl rfl hS ?_
      simp only [Act.put,sA,s0,s1]
      refine tkF 83 7 rfl rfl hS ?_
      simp only [Act.put,sA,s0,s1]
      refine tkF 84 8 rfl rfl hS ?_
      simp only [Act.put,sA,s0,s1]
      refine tkF 85 9 rfl rfl hS ?_
      simp only [Act.put,sA,s0,s1]
      refine rdy1 10 rfl (fun K hK=>?_)
      go_simp
      refine hK.out _ _ (KS.out _ (qjw _)) (fun _=>?_)
      clear hK K hS
      refine rdy1 11 rfl (fun K hK=>?_)
      refine qff (by rfl) _ _ _ (by rfl) wJ.heap.size 86 j0 (.agg #[.int .i64 0,.int .i64 0,.string ⟨#[]⟩]) 3 32 Tryz.underlying31 hj0 hy0 hy1 hy2 rfl (by decide) _ z2.size (flatK qcw 3 z2).toList (by rfl) hown2 ⟨w5.heap.size,0,none⟩ 1 1 [.int .i64 (y0:Int),.int .i64 (y1:Int),.string ⟨tx.toArray⟩] (by rfl) (by rfl) (qeg (qah w5.drew _)) (by simp [Value.oneCell']) (by unfold maxLen;omega) (by omega) (by have:=K5.out.size;have:=HJ4.out;simp;omega) ?_
      intro v' w6 hown5 hgrow5 hat5
      obtain ⟨Av,cv,rfl⟩:=qdo hown5
      have F6:Hid (TsF s w p1 p2 p3 p4 stx pc3 (some ⟨b1,off,none⟩) 2 c1 (.slice Az z.size cz) v w6):=((F5.out.below (Below.refl _ _).drew).below (bel1 w5.drew _)).grown hgrow5 (fun g e=>by have:=HDm.out.oldB g e;have:=HJ4.out;omega)
      have J6:Hid (KF (p4 + 1) wJ w6):=(J5.out.drew.trans (KF.of_below (bel1 w5.drew _))).grow hgrow5 (fun g e=>HDm.out.oldB g e)
      have D6:Hid (DmI kdS seC seM nnS 86 wJ.heap.size s st3 (z2.push ⟨(y0:Int),(y1:Int),⟨tx.toArray⟩⟩) (.slice Av (z2.size + 1) cv) w6):=by
       refine HDm.out.step (K5.out.drew.trans (KF.of_below (bel1 w5.drew _))) trivial (fun _ h=>h.elim) HJ4.out.2.2 ?_ ?_ hown5 hgrow5 ?_
       ·rw [HSK.out,HX.out]
        rfl
       ·unfold nnS;simp only;omega
       ·rintro (⟨_,h⟩ | ⟨_,_,_,h⟩) <;> exact (show False from h).elim
      have KS6:=KS.out _ (qhg hgrow5)
      refine hK.out _ _ KS6 (fun _=>?_)
      clear hK K
      have hS:=KS6
      refine tkF 88 12 rfl rfl hS ?_
      simp only [Act.put,List.setIfInBounds_toArray]
      clear hS KS6 hown5 hgrow5 hat5 hown2 KS
      obtain ⟨x1,x2,z3,z4,o0,o1⟩:=F6.out.cells
      have f0:=F6.out.froz.2
      have hl:=F6.out.lt
      refine rdyL 13 rfl (fun K hK=>?_)
      go_simp
      refine hK.out _ _ ?_
      clear hK K x1 x2 z3 z4 o0 o1 f0 hl
      refine qas (by kernel_rfl) ?_ _
      go_wp2
      go_roundw
      case rel =>
       refine ⟨d - 1,z2.push ⟨(y0:Int),(y1:Int),⟨tx.toArray⟩⟩,.slice Av (z2.size + 1) cv,pc3,some ⟨b1,off,none⟩,2,c1,by go_num,hI (by have:=HD.out;rw [Array.size_push];omega),by omega,?_,hI (D6.out.kf (KF.of_setCell (by have:=HJ4.out;show p4 < _;omega) _ _)),hI (J6.out.trans (KF.of_setCell (by show p4 < p4 + 1;omega) _ _))⟩
       have e:(qan (seC.rd s.data.toList) (z2.push ⟨(y0:Int),(y1:Int),⟨tx.toArray⟩⟩:Array SS).size st3).1=stx:=by
        rw [Array.size_push,qcm,HSK.out,HX.out]
       rw [e]
       exact hI (F6.out.set2 _)
      case measure=>simp [intOf];omega
     ·have HE:=hI hE
      obtain ⟨ek,hek⟩:∃ e,stk.r.e=e:=⟨_,rfl⟩
      rw [hek] at z3 hE
      have hne:((ek:Int) == 0)=false:=by simpa using hE
      clear hek hE x1 x2 z4 o0 o1
      go_wp2
      go_meet
      exact ⟨z2,v,pk,Ak,nk,ck,hI ⟨by have:=HD.out;omega,Or.inr (by rw [HSK.out];exact HE.out)⟩,by rw [HSK.out];exact HF,HDm,HKJ⟩
  case rest =>
   obtain ⟨z2,v,pk,Ak,nk,ck,HK,HF,HDm,HKJ⟩:=hcut
   obtain ⟨hf1,hf2⟩:=HDm.out.fin HK.out.1 HK.out.2 E3.out
   rw [hf1] at HF
   have V2:Hid (st4.r.e=0→z2.toList.map seM=g2∧∀ y ∈ z2.toList,nnS y):=hf2
   clear hf1 hf2 HK
   obtain ⟨Ay,cy,rfl⟩:=HDm.out.form
   have hx:wc.heap[p1]?=some (.cells #[.string s,.int .i64 (st4.r.pos:Int),.string pk,.int .i64 (st4.r.e:Int),.slice Ak nk ck,.bool st4.odd] 98 (0,0)):=HF.out.x
   have hy:wc.heap[p2]?=some (.cells #[.string ⟨#[]⟩,.int .i64 0,.string ⟨#[]⟩,.int .i64 0,.slice none 0 0,.bool false] 98 (0,0)):=HF.out.y
   have HXX:=hI hx
   have HYY:=hI hy
   have KS:Hid (∀ W:World,W.heap[p1]?=wc.heap[p1]?→W.heap[p4]?=wc.heap[p4]?→W.cell? ⟨p1,0,none⟩=some (.string s)∧W.cell? ⟨p1,1,none⟩=some (.int .i64 (st4.r.pos:Int))∧W.cell? ⟨p1,2,none⟩=some (.string pk)∧W.cell? ⟨p1,3,none⟩=some (.int .i64 (st4.r.e:Int))∧W.cell? ⟨p1,4,none⟩=some (.slice Ak nk ck)∧W.cell? ⟨p1,5,none⟩=some (.bool st4.odd)∧W.cell? ⟨p4,0,none⟩=some (.slice Az z.size cz)∧W.cell? ⟨p4,1,none⟩=some (.slice Ay z2.size cy)):=fun W h1 h4=>by
    obtain ⟨k0,k1,k2,k3,k4,k5⟩:=qar (h1.trans HXX.out)
    have o0:=(qab (h4.trans HF.out.o) 0).trans rfl
    have o1:=(qab (h4.trans HF.out.o) 1).trans rfl
    exact ⟨k0,k1,k2,k3,k4,k5,o0,o1⟩
   clear hx hy
   go_wp2_with fail
   refine qat (S:=fun W=>W.cell? ⟨p1,0,none⟩=some (.string s)∧W.cell? ⟨p1,1,none⟩=some (.int .i64 (st4.r.pos:Int))∧W.cell? ⟨p1,2,none⟩=some (.string pk)∧W.cell? ⟨p1,3,none⟩=some (.int .i64 (st4.r.e:Int))∧W.cell? ⟨p1,4,none⟩=some (.slice Ak nk ck)∧W.cell? ⟨p1,5,none⟩=some (.bool st4.odd)∧W.cell? ⟨p4,0,none⟩=some (.slice Az z.size cz)∧W.cell? ⟨p4,1,none⟩=some (.slice Ay z2.size cy)) (by kernel_rfl) ?_
   have hS:=KS.out wc.drew rfl rfl
   refine tkF 89 0 rfl rfl hS ?_
   simp only [Act.put,sA,s0,s1]
   refine tkF 90 1 rfl rfl hS ?_
   simp only [Act.put,sA,s0,s1]
   clear hS
   obtain ⟨d0',d1',d2',d3',d4',d5'⟩:=qar HYY.out
   obtain ⟨f0',f1',f2',f3',f4',f5'⟩:=qck HYY.out
   have hl:=qaa HYY.out
   refine rdy1 2 rfl (fun K hK=>?_)
   go_simp
   have q:=HF.out.q
   clear d0' d1' d2' d3' d4' d5' f0' f1' f2' f3' f4' f5' hl
   have ks1:=qow (W:=wc) (g:=p2) (i:=p1) (by omega) (.string s) (.int .i64 (st4.r.pos:Int)) (.string pk) (.int .i64 (st4.r.e:Int)) (.slice Ak nk ck) (.bool st4.odd)
   have ks4:=qow (W:=wc) (g:=p2) (i:=p4) (by omega) (.string s) (.int .i64 (st4.r.pos:Int)) (.string pk) (.int .i64 (st4.r.e:Int)) (.slice Ak nk ck) (.bool st4.odd)
   have Y7:=hI (set6_heap HYY.out (.string s) (.int .i64 (st4.r.pos:Int)) (.string pk) (.int .i64 (st4.r.e:Int)) (.slice Ak nk ck) (.bool st4.odd))
   have Z7:=hI ((qow (W:=wc) (g:=p2) (i:=p3) (by omega) (.string s) (.int .i64 (st4.r.pos:Int)) (.string pk) (.int .i64 (st4.r.e:Int)) (.slice Ak nk ck) (.bool st4.odd)).trans HF.out.z)
   have K7:=hI (KF.set6 (m:=p4 + 1) (g:=p2) (by omega) wc (.string s) (.int .i64 (st4.r.pos:Int)) (.string pk) (.int .i64 (st4.r.e:Int)) (.slice Ak nk ck) (.bool st4.odd))
   have B7:=hI (bel_set6 HF.out.b (by omega:w.heap.size≤p2) (.string s) (.int .i64 (st4.r.pos:Int)) (.string pk) (.int .i64 (st4.r.e:Int)) (.slice Ak nk ck) (.bool st4.odd))
   obtain ⟨w7,hw7⟩:∃ W,W=set6 wc p2 (.string s) (.int .i64 (st4.r.pos:Int)) (.string pk) (.int .i64 (st4.r.e:Int)) (.slice Ak nk ck) (.bool st4.odd):=⟨_,rfl⟩
   rw [←hw7] at ks1 ks4 Y7 Z7 K7 B7
   unfold set6 at hw7
   rw [←hw7]
   have ks5:=KS.out w7 ks1 ks4
   refine hK.out _ _ ks5 (fun _=>?_)
   clear ks1 ks4 ks5 hK K
   have Q:=hI q
   clear hw7 q KS HXX HYY
   have d0':=(qab Z7.out 0).trans rfl
   have d1':=(qab Z7.out 1).trans rfl
   have f0':=Lib.frozen_of_heap Z7.out 0
   have f1':=Lib.frozen_of_heap Z7.out 1
   have hl:=qaa Z7.out
   refine rdyL 3 rfl (fun K hK=>?_)
   go_simp
   refine hK.out _ _ ?_
   clear hK K d0' d1' f0' f1' hl
   refine qas (by kernel_rfl) ?_ _
   go_wp2
   have Z8:=heap_s2 Z7.out (.slice Az z.size cz) (.slice Ay z2.size cy)
   have Y8:((w7.setCell ⟨p3,0,none⟩ (.slice Az z.size cz)).setCell ⟨p3,1,none⟩ (.slice Ay z2.size cy)).heap[p2]?=some (.cells (dI s st4 pk (.slice Ak nk ck)) 98 (0,0)):=by
    have q:=Q.out
    rw [Below.heap_setCell _ _ _ _ (by show p2≠p3;omega),Below.heap_setCell _ _ _ _ (by show p2≠p3;omega)]
    exact Y7.out
   have K8:KF (p4 + 1) w7 ((w7.setCell ⟨p3,0,none⟩ (.slice Az z.size cz)).setCell ⟨p3,1,none⟩ (.slice Ay z2.size cy)):=(KF.of_setCell (by have:=Q.out;show p3 < _;omega) _ _).trans (KF.of_setCell (by have:=Q.out;show p3 < _;omega) _ _)
   refine bodyPost_ret (qlr (T:=98) rfl rfl Y8 (qbk _ _ _ _) rfl (qsu Z8 rfl)) rfl ?_
   obtain ⟨x,hx1,hx2,hx3⟩:=DmI.done D2.out
   obtain ⟨y,hy1,hy2,hy3⟩:=DmI.done HDm.out
   injection hx1 with hx4 _ hx5
   injection hy1 with hy4 _ hy5
   refine ⟨pk,Ak,nk,ck,x,y,by rw [←hx4,←hx5,←hy4,←hy5,hx2,hy2],(hx3.kf (HKJ.out.trans (K7.out.trans K8))).mono (by have:=Q.out;omega),((hy3.kf ((K7.out.trans K8).mono (by have:=F2J.out.lt;omega)))).mono (by have:=Q.out;have:=F2J.out.lt;omega),fun h0=>?_,(B7.out.setCell (p:=⟨p3,0,none⟩) (by have:=Q.out;show _≤p3;omega) _).setCell (p:=⟨p3,1,none⟩) (by have:=Q.out;show _≤p3;omega) _⟩
   rw [hx2,hy2]
   exact ⟨V1.out (B2.out h0),V2.out h0⟩
end Go.Proofs.YtnmojicfmcbgmaaGreatDoor
