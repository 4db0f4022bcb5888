/- Texts that the law leans on. -/
import Derived.Deep.CutRange
import Derived.Lib.SliceRun
import Derived.Test.YtnmojicfmcbgmaaGreatDoorQRdr
import Derived.Test.YtnmojicfmcbgmaaGreatDoorQDrw
import Derived.Test.YtnmojicfmcbgmaaGreatDoorQRead
import Derived.Test.YtnmojicfmcbgmaaGreatDoorQIdentB
namespace Go.Proofs.YtnmojicfmcbgmaaGreatDoor
open Go.RowKit Go.Sort Go.Lib Nb
set_option maxRecDepth 100000
theorem qeo {α:Type} [Inhabited α] {enc:α→List Value} {k:Nat} {w:World} {d:Array α} {base:Nat} {e:TypeId} {v:Value} (h:w.ownsRow base e k v d.size (flatK enc k d).toList) :
 ∃ A c,v=.slice A d.size c∧RdK enc k w.heap.size w A d∧d.size≤c∧(A=none→c=0)∧Fr base A:=by
 by_cases hn:v=.slice none 0 0
 ·subst hn
  obtain ⟨_,⟨_,h0⟩ | ⟨g,cap,cur,hv,_⟩⟩:=h
  ·exact ⟨none,0,by rw [h0],fun h=>absurd h0 (by omega),Nat.le_of_eq h0,fun _=>rfl,Fr.none_ _⟩
  ·cases hv
 ·obtain ⟨g,cap,hv,hb,hlt,hH⟩:=qjh h hn
  obtain ⟨_,⟨hv2,_⟩ | ⟨g2,cap2,cur2,hv2,_,_,hcc,_⟩⟩:=h
  ·exact absurd hv2 hn
  ·rw [hv] at hv2
   injection hv2 with _ _ hc
   exact ⟨_,cap,hv,RdK.of_holds hH hlt,by omega,(fun h=>by cases h),fun a ha=>by injection ha with ha;subst ha;exact hb⟩
theorem qbj {w a:World} {base:Nat} {e:TypeId} {k n:Nat} {v:Value} {xs:List Value} (h:w.ownsRow base e k v n xs) (hb:Below w.heap.size w a):a.ownsRow base e k v n xs:=by
 refine ⟨h.1,?_⟩
 rcases h.2 with hn | ⟨g,cap,cur,rfl,hbg,hgg,rest⟩
 ·exact .inl hn
 ·exact .inr ⟨g,cap,cur,rfl,hbg,(hb.block g (qaa hgg)).trans hgg,rest⟩
theorem qcl (w:World) (xs:List Value) (e:TypeId):∀ j u,xs[j]?=some u→(w.alloc (.cells xs.toArray e)).cell? ((⟨w.heap.size,0,none⟩:Addr).add j)=some u:=by
 intro j u hj
 rw [Addr.add_lit,Nat.zero_add,qco,List.getElem?_toArray]
 exact hj
theorem qll {w0 w a:World} {base:Nat} {e:TypeId} {k n:Nat} {v:Value} {xs:List Value} (h:Below w0.heap.size w0 w) (ho:w.ownsRow base e k v n xs) (hb:w0.heap.size≤base) (hg:w.grownBy a v.ownBlock):Below w0.heap.size w0 a :=
 ⟨hg.os.trans h.os,hg.tape.trans h.tape,hg.output.trans h.output,Nat.le_trans h.size hg.size,fun i hi=>(hg.block i (Nat.lt_of_lt_of_le hi h.size) (by intro e;have:=(ho.lt i e.symm).1;omega)).trans (h.block i hi)⟩
def GrP {α:Type} [Inhabited α] (en:α→List Value) (k n b B:Nat) (s:ByteArray) (z:Array α) (st':IS) (w:World) (e:Ending) (w':World):Prop :=
 ∃ A c,e=.returned (.slice A z.size c)∧RdK en k w'.heap.size w' A z∧z.size≤c∧(A=none→c=0)∧Fr w.heap.size A∧IPost n b B s st' w w'
theorem grp_lt {n:Nat} {l:List Nat} {k:Nat} (h:k * n + n≤l.length):((l.drop (k * n)).take n).length=n:=by rw [List.length_take,List.length_drop];omega
theorem qcc {n:Nat} {l:List Nat} {k j:Nat} (h:k * n + n≤l.length) (hj:j < n):((l.drop (k * n)).take n)[j]! = l.getD (k * n + j) 0:=by
 have h1:j < ((l.drop (k * n)).take n).length:=by rw [grp_lt h];exact hj
 rw [getElem!_pos ((l.drop (k * n)).take n) j h1,List.getElem_take,List.getElem_drop]
 simp [show k * n + j < l.length by omega]
theorem qbo {l:List Nat} {i:Nat} (h:i < l.length):(ints l)[i]! = ((l.getD i 0:Nat):Int):=by
 rw [getElem!_pos (ints l) i (by rw [qao];exact h)]
 simp [ints,h]
theorem qhe (s:List UInt8) (most:Nat) (r:RS) (hm:most≤1000):(rowR s most r).2.length≤1000:=by
 by_cases he:(rowR s most r).1.e=0
 ·obtain ⟨_,_,c,_⟩:=rowR_ok (s:=s) (most:=most) (r:=r) (r':=(rowR s most r).1) (l:=(rowR s most r).2) rfl he
  omega
 ·unfold rowR at he ⊢
  split
  ·simp
  ·rename_i h1
   split
   ·simp
   ·rename_i l k h2
    rw [if_neg h1,h2] at he
    exact absurd rfl he
theorem infoA_X:(Tryz.prog.info? 29).map (fun i=>(i.zero,i.size,i.bytes))=some (some (.agg #[.int .i64 0,.int .i64 0]),2,16):=by kernel_rfl
theorem mkA_any (b off c:Nat) (x0 x1:Int) (w:World) (h0:w.cell? ⟨b,off,none⟩=some (.int .i64 x0)) (h1:w.cell? ⟨b,off + 1,none⟩=some (.int .i64 x1)) :
 Calls Tryz.prog 80 #[.slice (some ⟨b,off,none⟩) 2 c] w fun e w'=>e=.returned (.agg #[.int .i64 x0,.int .i64 x1])∧Below w.heap.size w w':=by
 have hlt:b < w.heap.size:=qap h0
 have KS:=hI (fun W (hb:Below w.heap.size w W)=>(⟨(hb.cell (p:=⟨b,off,none⟩) hlt).trans h0,(hb.cell (p:=⟨b,off + 1,none⟩) hlt).trans h1⟩:W.cell? ⟨b,off,none⟩=some (.int .i64 x0)∧W.cell? ⟨b,off + 1,none⟩=some (.int .i64 x1)))
 clear h0 h1
 go_enter Tryz.func80,Tryz.ntmps80
 go_wp2_with fail
 refine qat (S:=fun W=>W.cell? ⟨b,off,none⟩=some (.int .i64 x0)∧W.cell? ⟨b,off + 1,none⟩=some (.int .i64 x1)) (by kernel_rfl) ?_
 have hS:=KS.out _ (bel1 w (.cells #[.int .i64 0,.int .i64 0] 29)).drew
 refine tkF 3 0 rfl rfl hS ?_
 simp only [Act.put,sA,s0,s1]
 refine tkF 4 1 rfl rfl hS ?_
 simp only [Act.put,sA,s0,s1]
 refine tkF 5 2 rfl rfl hS ?_
 simp only [Act.put,sA,s0,s1]
 refine tkF 6 3 rfl rfl hS ?_
 simp only [Act.put,sA,s0,s1]
 refine tkF 7 4 rfl rfl hS ?_
 simp only [Act.put,sA,s0,s1]
 refine tkF 8 5 rfl rfl hS ?_
 simp only [Act.put,sA,s0,s1]
 refine tkF 9 6 rfl rfl hS ?_
 simp only [Act.put,sA,s0,s1]
 refine rdyL 7 rfl (fun K hK=>?_)
 go_simp
 refine hK.out _ _ ?_
 clear hK K
 refine qas (by kernel_rfl) ?_ _
 go_wp2
 have k0:(w.alloc (.cells #[.int .i64 x0,.int .i64 x1] 29)).drew.cell? ⟨w.heap.size,0,none⟩=some (.int .i64 x0):=by rw [qab (hA1 w _)];rfl
 have k1:(w.alloc (.cells #[.int .i64 x0,.int .i64 x1] 29)).drew.cell? ⟨w.heap.size,1,none⟩=some (.int .i64 x1):=by rw [qab (hA1 w _)];rfl
 refine bodyPost_ret (v:=.agg #[.int .i64 x0,.int .i64 x1]) (by simp [results,Tryz.results80,go_sem,k0,k1]) rfl ⟨rfl,(bel1 w _).drew⟩
set_option maxHeartbeats 4000000 in
theorem qsn (n b B:Nat) (s:ByteArray) (st:IS) (w:World) (h:IRd n b B s st w) (hs:s.size≤1000000) :
 Calls Tryz.prog 79 #[.pointer (some ⟨B,0,none⟩),.int .i64 2,.func (.func 80) #[] #[]] w fun e w'=>GrP qbe 2 n b B s (qai ((rowC 2 (by decide)).rd s.data.toList st).2) ((rowC 2 (by decide)).rd s.data.toList st).1 w e w':=by
 obtain ⟨i0,hi0,hz0,hz1,hz2⟩:=info_parts infoA_X
 have hll:=qhe s.data.toList 1000 st.r (by decide)
 obtain ⟨r',l,hR⟩:∃ r' l,rowR s.data.toList 1000 st.r=(r',l):=⟨_,_,rfl⟩
 have HROW:Hid (Calls Tryz.prog 87 #[.pointer (some ⟨b,0,none⟩),.int .i64 1000] w fun e w'=>RRowP b s (r',l) w e w'):=by
  have:=qjg b s st.r 1000 w h.rd h.gl hs (by decide)
  rw [hR] at this
  exact this
 have hV:(rowC 2 (by decide)).rd s.data.toList st=(⟨r',st.odd || decide (l.length % 2≠0)⟩,grp 2 (l.length / 2) l):=by
  show ((⟨(rowR s.data.toList 1000 st.r).1,st.odd || decide ((rowR s.data.toList 1000 st.r).2.length % 2≠0)⟩:IS),grp 2 ((rowR s.data.toList 1000 st.r).2.length / 2) (rowR s.data.toList 1000 st.r).2)=_
  rw [hR]
 obtain ⟨od,hod⟩:∃ od,st.odd=od:=⟨_,rfl⟩
 have HOD:=hI hod
 rw [hod] at hV
 rw [hV]
 rw [hR] at hll
 simp only at hll
 have H:=hI h
 have c0:=h.c0
 clear h hV hR hod
 go_enter Tryz.func79,Tryz.ntmps79
 go_wp2_with fail
 refine HROW.out.mono ?_
 rintro _ w1 ⟨A,cp,rfl,hrd,⟨hnil,hcap⟩,hlo,hP⟩
 simp only at hrd hnil hcap hlo hP
 have HI1:=hI (H.out.rpost hP)
 rw [HOD.out] at HI1
 have HG1:Hid (Gr2 b B w w1):=hP.gr2
 have HFr:Hid (Fr n A):=fun a ha=>Nat.le_trans H.out.hn (hlo a ha)
 have HRD:=hI hrd
 clear hrd hnil hlo hP c0
 have c0:=HI1.out.c0
 have c1:=HI1.out.c1
 have f1:w1.frozen? ⟨B,1,none⟩=false:=Lib.frozen_of_heap HI1.out.bx 1
 have hrem:((l.length:Int) % 2 != 0)=decide (l.length % 2≠0):=by
  rw [show (l.length:Int) % 2=((l.length % 2:Nat):Int) by omega]
  generalize l.length % 2=q
  by_cases h:q=0
  ·subst h;rfl
  ·have h2:(q:Int)≠0:=by omega
   simp [h]
 have HREM:=hI hrem
 clear hrem
 go_upto_region 2 with (fail)
 go_cut [7] from 15 to 28 (fun v wx=>v=.slice A l.length cp∧wx=w1.setCell ⟨B,1,none⟩ (.bool (od || decide (l.length % 2≠0))))
 case first =>
  cases od
  ·go_wp2
   go_meet
   exact ⟨rfl,by rw [HREM.out];rfl⟩
  ·go_wp2
   go_meet
   exact ⟨rfl,rfl⟩
 obtain ⟨rfl,rfl⟩:=hcut
 obtain ⟨od2,hod2⟩:∃ x,(od || decide (l.length % 2≠0))=x:=⟨_,rfl⟩
 rw [hod2]
 have HOD2:=hI hod2
 have HI2:=hI (HI1.out.odds od2)
 have HG2:=hI (HG1.out.trans (HI1.out.gr_odd od2))
 have HR2:=hI (HRD.out.gr2 (HI1.out.gr_odd od2) HFr.out H.out.hb H.out.hB)
 obtain ⟨w2,hw2⟩:∃ W,W=w1.setCell ⟨B,1,none⟩ (.bool od2):=⟨_,rfl⟩
 rw [←hw2] at HI2 HG2 HR2 ⊢
 clear hw2 hod2 HREM c0 c1 f1 HI1 HG1 HRD HROW
 go_wp2_with fail
 go_loopw [8,9] (fun v i W=>∃ k q:Nat,i=.int .i64 (q:Int)∧Hid (q=k * 2)∧k * 2≤l.length∧W.ownsRow w2.heap.size 29 2 v (qai (grp 2 k l)).size (flatK qbe 2 (qai (grp 2 k l))).toList∧Hid (Below w2.heap.size w2 W)) (fun _ i _=>l.length + 2 - (intOf i).toNat)
 case atStart=>exact ⟨0,0,rfl,hI (by simp),by omega,qda _ _ _ _ _,hI (Below.refl _ _)⟩
 case round =>
  obtain ⟨k,q,rfl,HQ,hk,hown,HB⟩:=hrel
  have hsz:(qai (grp 2 k l)).size=k:=by unfold qai;simp [qig]
  rw [hsz] at hown
  have hqb:q≤1000:=by have:=HQ.out;omega
  by_cases hlt:q + 2≤l.length
  ·have kz:(q:Int) + 2≤(l.length:Int):=by omega
   have kq:k * 2 + 2≤l.length:=by have:=HQ.out;omega
   obtain ⟨b1,off,rfl,hbl,f⟩:=(HR2.out.below HB.out) (by rw [qao];omega)
   have hG:=hI (grp_snoc 2 k l)
   have e0:wr.cell? ⟨b1,off + q,none⟩=some (.int .i64 ((l.getD (q + 0) 0:Nat):Int)):=by rw [show off + q=off + (q + 0) by omega,f (q + 0) (by rw [qao];omega),qbo (by omega)]
   have e1:wr.cell? ⟨b1,off + q + 1,none⟩=some (.int .i64 ((l.getD (q + 1) 0:Nat):Int)):=by rw [show off + q + 1=off + (q + 1) by omega,f (q + 1) (by rw [qao];omega),qbo (by omega)]
   have HS:Hid ((qai (grp 2 (k + 1) l))=(qai (grp 2 k l)).push ((((l.getD (q + 0) 0:Nat):Int),((l.getD (q + 1) 0:Nat):Int)))):=by
    show _=_
    rw [hG.out]
    unfold qai
    rw [List.map_append,List.map_cons,List.map_nil]
    unfold toP
    rw [qcc (j:=0) kq (by decide),qcc (j:=1) kq (by decide),←HQ.out]
    simp
   obtain ⟨y0,hy0⟩:∃ y:Int,((l.getD (q + 0) 0:Nat):Int)=y:=⟨_,rfl⟩
   rw [hy0] at e0 HS
   clear hy0
   obtain ⟨y1,hy1⟩:∃ y:Int,((l.getD (q + 1) 0:Nat):Int)=y:=⟨_,rfl⟩
   rw [hy1] at e1 HS
   clear hy1
   have HMK:=hI (fun W (hb:Below wr.heap.size wr W)=>mkA_any b1 (off + q) (cp - q) y0 y1 W ((hb.cell (qap e0)).trans e0) ((hb.cell (qap e1)).trans e1))
   clear f
   go_wp2_with fail
   refine (HMK.out _ (Below.refl _ _)).mono ?_
   rintro _ w5 ⟨rfl,hb5⟩
   have HBa:=hI (qad (qac HB.out hb5) (.cells #[.int .i64 y0,.int .i64 y1] 29))
   have hown2:=qbj hown (qad hb5 (.cells #[.int .i64 y0,.int .i64 y1] 29))
   clear HMK hb5 e0 e1
   go_wp2_with (at_builtin;refine wpList_append_own _ rfl _ _ 23 rfl w2.heap.size 29 i0 (.agg #[.int .i64 0,.int .i64 0]) 2 16 Tryz.underlying23 hi0 hz0 hz1 hz2 rfl (by decide) _ _ _ rfl hown2 ⟨w5.heap.size,0,none⟩ 1 1 [.int .i64 y0,.int .i64 y1] rfl rfl (qcl w5 _ _) (by simp [Value.oneCell']) (by unfold maxLen;omega) (by omega) (by have:=HBa.out.size;omega) ?_;intro v' w6 hown3 hgrow _)
   go_roundw
   case rel =>
    refine ⟨k + 1,q + 2,by go_num,hI (by have:=HQ.out;omega),by omega,?_,hI (qll HBa.out hown2 (Nat.le_refl _) hgrow)⟩
    rw [HS.out,Array.size_push,hsz,qcr (enc:=qbe) (k:=2) (fun _=>rfl)]
    exact hown3
   case measure=>simp [intOf];omega
  ·have kz:decide ((q:Int) + 2≤(l.length:Int))=false:=decide_eq_false (by omega)
   have hkd:l.length / 2=k:=by have:=HQ.out;omega
   obtain ⟨A3,c3,rfl,h1,h2,h3,h4⟩:=qeo (d:=qai (grp 2 k l)) (by rw [hsz];exact hown)
   have HK:=hI hkd
   have HRE:=hI (And.intro h1 (And.intro h2 (And.intro h3 h4)))
   clear hkd h1 h2 h3 h4 hown hsz hlt
   go_wp2
   go_ret
   rw [HK.out,HOD2.out]
   exact ⟨A3,c3,rfl,HRE.out.1,HRE.out.2.1,HRE.out.2.2.1,HRE.out.2.2.2.mono HG2.out.size,HI2.out.below HB.out,HG2.out.below HB.out⟩
theorem infoR_X:(Tryz.prog.info? 141).map (fun i=>(i.zero,i.size,i.bytes))=some (some (.agg #[.int .i64 0,.int .i64 0]),2,16):=by kernel_rfl
theorem mkR_any (b off c:Nat) (x0 x1:Int) (w:World) (h0:w.cell? ⟨b,off,none⟩=some (.int .i64 x0)) (h1:w.cell? ⟨b,off + 1,none⟩=some (.int .i64 x1)) :
 Calls Tryz.prog 84 #[.slice (some ⟨b,off,none⟩) 2 c] w fun e w'=>e=.returned (.agg #[.int .i64 x0,.int .i64 x1])∧Below w.heap.size w w':=by
 have hlt:b < w.heap.size:=qap h0
 have KS:=hI (fun W (hb:Below w.heap.size w W)=>(⟨(hb.cell (p:=⟨b,off,none⟩) hlt).trans h0,(hb.cell (p:=⟨b,off + 1,none⟩) hlt).trans h1⟩:W.cell? ⟨b,off,none⟩=some (.int .i64 x0)∧W.cell? ⟨b,off + 1,none⟩=some (.int .i64 x1)))
 clear h0 h1
 go_enter Tryz.func84,Tryz.ntmps84
 go_wp2_with fail
 refine qat (S:=fun W=>W.cell? ⟨b,off,none⟩=some (.int .i64 x0)∧W.cell? ⟨b,off + 1,none⟩=some (.int .i64 x1)) (by kernel_rfl) ?_
 have hS:=KS.out _ (bel1 w (.cells #[.int .i64 0,.int .i64 0] 141)).drew
 refine tkF 3 0 rfl rfl hS ?_
 simp only [Act.put,sA,s0,s1]
 refine tkF 4 1 rfl rfl hS ?_
 simp only [Act.put,sA,s0,s1]
 refine tkF 5 2 rfl rfl hS ?_
 simp only [Act.put,sA,s0,s1]
 refine tkF 6 3 rfl rfl hS ?_
 simp only [Act.put,sA,s0,s1]
 refine tkF 7 4 rfl rfl hS ?_
 simp only [Act.put,sA,s0,s1]
 refine tkF 8 5 rfl rfl hS ?_
 simp only [Act.put,sA,s0,s1]
 refine tkF 9 6 rfl rfl hS ?_
 simp only [Act.put,sA,s0,s1]
 refine rdyL 7 rfl (fun K hK=>?_)
 go_simp
 refine hK.out _ _ ?_
 clear hK K
 refine qas (by kernel_rfl) ?_ _
 go_wp2
 have k0:(w.alloc (.cells #[.int .i64 x0,.int .i64 x1] 141)).drew.cell? ⟨w.heap.size,0,none⟩=some (.int .i64 x0):=by rw [qab (hA1 w _)];rfl
 have k1:(w.alloc (.cells #[.int .i64 x0,.int .i64 x1] 141)).drew.cell? ⟨w.heap.size,1,none⟩=some (.int .i64 x1):=by rw [qab (hA1 w _)];rfl
 refine bodyPost_ret (v:=.agg #[.int .i64 x0,.int .i64 x1]) (by simp [results,Tryz.results84,go_sem,k0,k1]) rfl ⟨rfl,(bel1 w _).drew⟩
set_option maxHeartbeats 4000000 in
theorem qso (n b B:Nat) (s:ByteArray) (st:IS) (w:World) (h:IRd n b B s st w) (hs:s.size≤1000000) :
 Calls Tryz.prog 83 #[.pointer (some ⟨B,0,none⟩),.int .i64 2,.func (.func 84) #[] #[]] w fun e w'=>GrP encR 2 n b B s (qai ((rowC 2 (by decide)).rd s.data.toList st).2) ((rowC 2 (by decide)).rd s.data.toList st).1 w e w':=by
 obtain ⟨i0,hi0,hz0,hz1,hz2⟩:=info_parts infoR_X
 have hll:=qhe s.data.toList 1000 st.r (by decide)
 obtain ⟨r',l,hR⟩:∃ r' l,rowR s.data.toList 1000 st.r=(r',l):=⟨_,_,rfl⟩
 have HROW:Hid (Calls Tryz.prog 87 #[.pointer (some ⟨b,0,none⟩),.int .i64 1000] w fun e w'=>RRowP b s (r',l) w e w'):=by
  have:=qjg b s st.r 1000 w h.rd h.gl hs (by decide)
  rw [hR] at this
  exact this
 have hV:(rowC 2 (by decide)).rd s.data.toList st=(⟨r',st.odd || decide (l.length % 2≠0)⟩,grp 2 (l.length / 2) l):=by
  show ((⟨(rowR s.data.toList 1000 st.r).1,st.odd || decide ((rowR s.data.toList 1000 st.r).2.length % 2≠0)⟩:IS),grp 2 ((rowR s.data.toList 1000 st.r).2.length / 2) (rowR s.data.toList 1000 st.r).2)=_
  rw [hR]
 obtain ⟨od,hod⟩:∃ od,st.odd=od:=⟨_,rfl⟩
 have HOD:=hI hod
 rw [hod] at hV
 rw [hV]
 rw [hR] at hll
 simp only at hll
 have H:=hI h
 have c0:=h.c0
 clear h hV hR hod
 go_enter Tryz.func83,Tryz.ntmps83
 go_wp2_with fail
 refine HROW.out.mono ?_
 rintro _ w1 ⟨A,cp,rfl,hrd,⟨hnil,hcap⟩,hlo,hP⟩
 simp only at hrd hnil hcap hlo hP
 have HI1:=hI (H.out.rpost hP)
 rw [HOD.out] at HI1
 have HG1:Hid (Gr2 b B w w1):=hP.gr2
 have HFr:Hid (Fr n A):=fun a ha=>Nat.le_trans H.out.hn (hlo a ha)
 have HRD:=hI hrd
 clear hrd hnil hlo hP c0
 have c0:=HI1.out.c0
 have c1:=HI1.out.c1
 have f1:w1.frozen? ⟨B,1,none⟩=false:=Lib.frozen_of_heap HI1.out.bx 1
 have hrem:((l.length:Int) % 2 != 0)=decide (l.length % 2≠0):=by
  rw [show (l.length:Int) % 2=((l.length % 2:Nat):Int) by omega]
  generalize l.length % 2=q
  by_cases h:q=0
  ·subst h;rfl
  ·have h2:(q:Int)≠0:=by omega
   simp [h]
 have HREM:=hI hrem
 clear hrem
 go_upto_region 2 with (fail)
 go_cut [7] from 15 to 28 (fun v wx=>v=.slice A l.length cp∧wx=w1.setCell ⟨B,1,none⟩ (.bool (od || decide (l.length % 2≠0))))
 case first =>
  cases od
  ·go_wp2
   go_meet
   exact ⟨rfl,by rw [HREM.out];rfl⟩
  ·go_wp2
   go_meet
   exact ⟨rfl,rfl⟩
 obtain ⟨rfl,rfl⟩:=hcut
 obtain ⟨od2,hod2⟩:∃ x,(od || decide (l.length % 2≠0))=x:=⟨_,rfl⟩
 rw [hod2]
 have HOD2:=hI hod2
 have HI2:=hI (HI1.out.odds od2)
 have HG2:=hI (HG1.out.trans (HI1.out.gr_odd od2))
 have HR2:=hI (HRD.out.gr2 (HI1.out.gr_odd od2) HFr.out H.out.hb H.out.hB)
 obtain ⟨w2,hw2⟩:∃ W,W=w1.setCell ⟨B,1,none⟩ (.bool od2):=⟨_,rfl⟩
 rw [←hw2] at HI2 HG2 HR2 ⊢
 clear hw2 hod2 HREM c0 c1 f1 HI1 HG1 HRD HROW
 go_wp2_with fail
 go_loopw [8,9] (fun v i W=>∃ k q:Nat,i=.int .i64 (q:Int)∧Hid (q=k * 2)∧k * 2≤l.length∧W.ownsRow w2.heap.size 141 2 v (qai (grp 2 k l)).size (flatK encR 2 (qai (grp 2 k l))).toList∧Hid (Below w2.heap.size w2 W)) (fun _ i _=>l.length + 2 - (intOf i).toNat)
 case atStart=>exact ⟨0,0,rfl,hI (by simp),by omega,qda _ _ _ _ _,hI (Below.refl _ _)⟩
 case round =>
  obtain ⟨k,q,rfl,HQ,hk,hown,HB⟩:=hrel
  have hsz:(qai (grp 2 k l)).size=k:=by unfold qai;simp [qig]
  rw [hsz] at hown
  have hqb:q≤1000:=by have:=HQ.out;omega
  by_cases hlt:q + 2≤l.length
  ·have kz:(q:Int) + 2≤(l.length:Int):=by omega
   have kq:k * 2 + 2≤l.length:=by have:=HQ.out;omega
   obtain ⟨b1,off,rfl,hbl,f⟩:=(HR2.out.below HB.out) (by rw [qao];omega)
   have hG:=hI (grp_snoc 2 k l)
   have e0:wr.cell? ⟨b1,off + q,none⟩=some (.int .i64 ((l.getD (q + 0) 0:Nat):Int)):=by rw [show off + q=off + (q + 0) by omega,f (q + 0) (by rw [qao];omega),qbo (by omega)]
   have e1:wr.cell? ⟨b1,off + q + 1,none⟩=some (.int .i64 ((l.getD (q + 1) 0:Nat):Int)):=by rw [show off + q + 1=off + (q + 1) by omega,f (q + 1) (by rw [qao];omega),qbo (by omega)]
   have HS:Hid ((qai (grp 2 (k + 1) l))=(qai (grp 2 k l)).push ((((l.getD (q + 0) 0:Nat):Int),((l.getD (q + 1) 0:Nat):Int)))):=by
    show _=_
    rw [hG.out]
    unfold qai
    rw [List.map_append,List.map_cons,List.map_nil]
    unfold toP
    rw [qcc (j:=0) kq (by decide),qcc (j:=1) kq (by decide),←HQ.out]
    simp
   obtain ⟨y0,hy0⟩:∃ y:Int,((l.getD (q + 0) 0:Nat):Int)=y:=⟨_,rfl⟩
   rw [hy0] at e0 HS
   clear hy0
   obtain ⟨y1,hy1⟩:∃ y:Int,((l.getD (q + 1) 0:Nat):Int)=y:=⟨_,rfl⟩
   rw [hy1] at e1 HS
   clear hy1
   have HMK:=hI (fun W (hb:Below wr.heap.size wr W)=>mkR_any b1 (off + q) (cp - q) y0 y1 W ((hb.cell (qap e0)).trans e0) ((hb.cell (qap e1)).trans e1))
   clear f
   go_wp2_with fail
   refine (HMK.out _ (Below.refl _ _)).mono ?_
   rintro _ w5 ⟨rfl,hb5⟩
   have HBa:=hI (qad (qac HB.out hb5) (.cells #[.int .i64 y0,.int .i64 y1] 141))
   have hown2:=qbj hown (qad hb5 (.cells #[.int .i64 y0,.int .i64 y1] 141))
   clear HMK hb5 e0 e1
   go_wp2_with (at_builtin;refine wpList_append_own _ rfl _ _ 79 rfl w2.heap.size 141 i0 (.agg #[.int .i64 0,.int .i64 0]) 2 16 Tryz.underlying79 hi0 hz0 hz1 hz2 rfl (by decide) _ _ _ rfl hown2 ⟨w5.heap.size,0,none⟩ 1 1 [.int .i64 y0,.int .i64 y1] rfl rfl (qcl w5 _ _) (by simp [Value.oneCell']) (by unfold maxLen;omega) (by omega) (by have:=HBa.out.size;omega) ?_;intro v' w6 hown3 hgrow _)
   go_roundw
   case rel =>
    refine ⟨k + 1,q + 2,by go_num,hI (by have:=HQ.out;omega),by omega,?_,hI (qll HBa.out hown2 (Nat.le_refl _) hgrow)⟩
    rw [HS.out,Array.size_push,hsz,qcr (enc:=encR) (k:=2) (fun _=>rfl)]
    exact hown3
   case measure=>simp [intOf];omega
  ·have kz:decide ((q:Int) + 2≤(l.length:Int))=false:=decide_eq_false (by omega)
   have hkd:l.length / 2=k:=by have:=HQ.out;omega
   obtain ⟨A3,c3,rfl,h1,h2,h3,h4⟩:=qeo (d:=qai (grp 2 k l)) (by rw [hsz];exact hown)
   have HK:=hI hkd
   have HRE:=hI (And.intro h1 (And.intro h2 (And.intro h3 h4)))
   clear hkd h1 h2 h3 h4 hown hsz hlt
   go_wp2
   go_ret
   rw [HK.out,HOD2.out]
   exact ⟨A3,c3,rfl,HRE.out.1,HRE.out.2.1,HRE.out.2.2.1,HRE.out.2.2.2.mono HG2.out.size,HI2.out.below HB.out,HG2.out.below HB.out⟩
theorem infoK_X:(Tryz.prog.info? 136).map (fun i=>(i.zero,i.size,i.bytes))=some (some (.agg #[.int .i64 0,.int .i64 0,.int .i64 0,.int .i64 0,.int .i64 0,.int .i64 0]),6,48):=by kernel_rfl
theorem mkK_any (b off c:Nat) (x0 x1 x2 x3 x4 x5:Int) (w:World) (h0:w.cell? ⟨b,off,none⟩=some (.int .i64 x0)) (h1:w.cell? ⟨b,off + 1,none⟩=some (.int .i64 x1)) (h2:w.cell? ⟨b,off + 2,none⟩=some (.int .i64 x2)) (h3:w.cell? ⟨b,off + 3,none⟩=some (.int .i64 x3)) (h4:w.cell? ⟨b,off + 4,none⟩=some (.int .i64 x4)) (h5:w.cell? ⟨b,off + 5,none⟩=some (.int .i64 x5)) :
 Calls Tryz.prog 137 #[.slice (some ⟨b,off,none⟩) 6 c] w fun e w'=>e=.returned (.agg #[.int .i64 x0,.int .i64 x1,.int .i64 x2,.int .i64 x3,.int .i64 x4,.int .i64 x5])∧Below w.heap.size w w':=by
 have hlt:b < w.heap.size:=qap h0
 have KS:=hI (fun W (hb:Below w.heap.size w W)=>(⟨(hb.cell (p:=⟨b,off,none⟩) hlt).trans h0,(hb.cell (p:=⟨b,off + 1,none⟩) hlt).trans h1,(hb.cell (p:=⟨b,off + 2,none⟩) hlt).trans h2,(hb.cell (p:=⟨b,off + 3,none⟩) hlt).trans h3,(hb.cell (p:=⟨b,off + 4,none⟩) hlt).trans h4,(hb.cell (p:=⟨b,off + 5,none⟩) hlt).trans h5⟩:W.cell? ⟨b,off,none⟩=some (.int .i64 x0)∧W.cell? ⟨b,off + 1,none⟩=some (.int .i64 x1)∧W.cell? ⟨b,off + 2,none⟩=some (.int .i64 x2)∧W.cell? ⟨b,off + 3,none⟩=some (.int .i64 x3)∧W.cell? ⟨b,off + 4,none⟩=some (.int .i64 x4)∧W.cell? ⟨b,off + 5,none⟩=some (.int .i64 x5)))
 clear h0 h1 h2 h3 h4 h5
 go_enter Tryz.func137,Tryz.ntmps137
 go_wp2_with fail
 refine qat (S:=fun W=>W.cell? ⟨b,off,none⟩=some (.int .i64 x0)∧W.cell? ⟨b,off + 1,none⟩=some (.int .i64 x1)∧W.cell? ⟨b,off + 2,none⟩=some (.int .i64 x2)∧W.cell? ⟨b,off + 3,none⟩=some (.int .i64 x3)∧W.cell? ⟨b,off + 4,none⟩=some (.int .i64 x4)∧W.cell? ⟨b,off + 5,none⟩=some (.int .i64 x5)) (by kernel_rfl) ?_
 have hS:=KS.out _ (bel1 w (.cells #[.int .i64 0,.int .i64 0,.int .i64 0,.int .i64 0,.int .i64 0,.int .i64 0] 136)).drew
 refine tkF 3 0 rfl rfl hS ?_
 simp only [Act.put,sA,s0,s1]
 refine tkF 4 1 rfl rfl hS ?_
 simp only [Act.put,sA,s0,s1]
 refine tkF 5 2 rfl rfl hS ?_
 simp only [Act.put,sA,s0,s1]
 refine tkF 6 3 rfl rfl hS ?_
 simp only [Act.put,sA,s0,s1]
 refine tkF 7 4 rfl rfl hS ?_
 simp only [Act.put,sA,s0,s1]
 refine tkF 8 5 rfl rfl hS ?_
 simp only [Act.put,sA,s0,s1]
 refine tkF 9 6 rfl rfl hS ?_
 simp only [Act.put,sA,s0,s1]
 refine tkF 10 7 rfl rfl hS ?_
 simp only [Act.put,sA,s0,s1]
 refine tkF 11 8 rfl rfl hS ?_
 simp only [Act.put,sA,s0,s1]
 refine tkF 12 9 rfl rfl hS ?_
 simp only [Act.put,sA,s0,s1]
 refine tkF 13 10 rfl rfl hS ?_
 simp only [Act.put,sA,s0,s1]
 refine tkF 14 11 rfl rfl hS ?_
 simp only [Act.put,sA,s0,s1]
 refine tkF 15 12 rfl rfl hS ?_
 simp only [Act.put,sA,s0,s1]
 refine tkF 16 13 rfl rfl hS ?_
 simp only [Act.put,sA,s0,s1]
 refine tkF 17 14 rfl rfl hS ?_
 simp only [Act.put,sA,s0,s1]
 refine tkF 18 15 rfl rfl hS ?_
 simp only [Act.put,sA,s0,s1]
 refine tkF 19 16 rfl rfl hS ?_
 simp only [Act.put,sA,s0,s1]
 refine tkF 20 17 rfl rfl hS ?_
 simp only [Act.put,sA,s0,s1]
 refine tkF 21 18 rfl rfl hS ?_
 simp only [Act.put,sA,s0,s1]
 refine rdyL 19 rfl (fun K hK=>?_)
 go_simp
 refine hK.out _ _ ?_
 clear hK K
 refine qas (by kernel_rfl) ?_ _
 go_wp2
 have k0:(w.alloc (.cells #[.int .i64 x0,.int .i64 x1,.int .i64 x2,.int .i64 x3,.int .i64 x4,.int .i64 x5] 136)).drew.cell? ⟨w.heap.size,0,none⟩=some (.int .i64 x0):=by rw [qab (hA1 w _)];rfl
 have k1:(w.alloc (.cells #[.int .i64 x0,.int .i64 x1,.int .i64 x2,.int .i64 x3,.int .i64 x4,.int .i64 x5] 136)).drew.cell? ⟨w.heap.size,1,none⟩=some (.int .i64 x1):=by rw [qab (hA1 w _)];rfl
 have k2:(w.alloc (.cells #[.int .i64 x0,.int .i64 x1,.int .i64 x2,.int .i64 x3,.int .i64 x4,.int .i64 x5] 136)).drew.cell? ⟨w.heap.size,2,none⟩=some (.int .i64 x2):=by rw [qab (hA1 w _)];rfl
 have k3:(w.alloc (.cells #[.int .i64 x0,.int .i64 x1,.int .i64 x2,.int .i64 x3,.int .i64 x4,.int .i64 x5] 136)).drew.cell? ⟨w.heap.size,3,none⟩=some (.int .i64 x3):=by rw [qab (hA1 w _)];rfl
 have k4:(w.alloc (.cells #[.int .i64 x0,.int .i64 x1,.int .i64 x2,.int .i64 x3,.int .i64 x4,.int .i64 x5] 136)).drew.cell? ⟨w.heap.size,4,none⟩=some (.int .i64 x4):=by rw [qab (hA1 w _)];rfl
 have k5:(w.alloc (.cells #[.int .i64 x0,.int .i64 x1,.int .i64 x2,.int .i64 x3,.int .i64 x4,.int .i64 x5] 136)).drew.cell? ⟨w.heap.size,5,none⟩=some (.int .i64 x5):=by rw [qab (hA1 w _)];rfl
 refine bodyPost_ret (v:=.agg #[.int .i64 x0,.int .i64 x1,.int .i64 x2,.int .i64 x3,.int .i64 x4,.int .i64 x5]) (by simp [results,Tryz.results137,go_sem,k0,k1,k2,k3,k4,k5]) rfl ⟨rfl,(bel1 w _).drew⟩
set_option maxHeartbeats 4000000 in
theorem qsp (n b B:Nat) (s:ByteArray) (st:IS) (w:World) (h:IRd n b B s st w) (hs:s.size≤1000000) :
 Calls Tryz.prog 136 #[.pointer (some ⟨B,0,none⟩),.int .i64 6,.func (.func 137) #[] #[]] w fun e w'=>GrP encK 6 n b B s (qbv ((rowC 6 (by decide)).rd s.data.toList st).2) ((rowC 6 (by decide)).rd s.data.toList st).1 w e w':=by
 obtain ⟨i0,hi0,hz0,hz1,hz2⟩:=info_parts infoK_X
 have hll:=qhe s.data.toList 1000 st.r (by decide)
 obtain ⟨r',l,hR⟩:∃ r' l,rowR s.data.toList 1000 st.r=(r',l):=⟨_,_,rfl⟩
 have HROW:Hid (Calls Tryz.prog 87 #[.pointer (some ⟨b,0,none⟩),.int .i64 1000] w fun e w'=>RRowP b s (r',l) w e w'):=by
  have:=qjg b s st.r 1000 w h.rd h.gl hs (by decide)
  rw [hR] at this
  exact this
 have hV:(rowC 6 (by decide)).rd s.data.toList st=(⟨r',st.odd || decide (l.length % 6≠0)⟩,grp 6 (l.length / 6) l):=by
  show ((⟨(rowR s.data.toList 1000 st.r).1,st.odd || decide ((rowR s.data.toList 1000 st.r).2.length % 6≠0)⟩:IS),grp 6 ((rowR s.data.toList 1000 st.r).2.length / 6) (rowR s.data.toList 1000 st.r).2)=_
  rw [hR]
 obtain ⟨od,hod⟩:∃ od,st.odd=od:=⟨_,rfl⟩
 have HOD:=hI hod
 rw [hod] at hV
 rw [hV]
 rw [hR] at hll
 simp only at hll
 have H:=hI h
 have c0:=h.c0
 clear h hV hR hod
 go_enter Tryz.func136,Tryz.ntmps136
 go_wp2_with fail
 refine HROW.out.mono ?_
 rintro _ w1 ⟨A,cp,rfl,hrd,⟨hnil,hcap⟩,hlo,hP⟩
 simp only at hrd hnil hcap hlo hP
 have HI1:=hI (H.out.rpost hP)
 rw [HOD.out] at HI1
 have HG1:Hid (Gr2 b B w w1):=hP.gr2
 have HFr:Hid (Fr n A):=fun a ha=>Nat.le_trans H.out.hn (hlo a ha)
 have HRD:=hI hrd
 clear hrd hnil hlo hP c0
 have c0:=HI1.out.c0
 have c1:=HI1.out.c1
 have f1:w1.frozen? ⟨B,1,none⟩=false:=Lib.frozen_of_heap HI1.out.bx 1
 have hrem:((l.length:Int) % 6 != 0)=decide (l.length % 6≠0):=by
  rw [show (l.length:Int) % 6=((l.length % 6:Nat):Int) by omega]
  generalize l.length % 6=q
  by_cases h:q=0
  ·subst h;rfl
  ·have h2:(q:Int)≠0:=by omega
   simp [h]
 have HREM:=hI hrem
 clear hrem
 go_upto_region 2 with (fail)
 go_cut [7] from 15 to 28 (fun v wx=>v=.slice A l.length cp∧wx=w1.setCell ⟨B,1,none⟩ (.bool (od || decide (l.length % 6≠0))))
 case first =>
  cases od
  ·go_wp2
   go_meet
   exact ⟨rfl,by rw [HREM.out];rfl⟩
  ·go_wp2
   go_meet
   exact ⟨rfl,rfl⟩
 obtain ⟨rfl,rfl⟩:=hcut
 obtain ⟨od2,hod2⟩:∃ x,(od || decide (l.length % 6≠0))=x:=⟨_,rfl⟩
 rw [hod2]
 have HOD2:=hI hod2
 have HI2:=hI (HI1.out.odds od2)
 have HG2:=hI (HG1.out.trans (HI1.out.gr_odd od2))
 have HR2:=hI (HRD.out.gr2 (HI1.out.gr_odd od2) HFr.out H.out.hb H.out.hB)
 obtain ⟨w2,hw2⟩:∃ W,W=w1.setCell ⟨B,1,none⟩ (.bool od2):=⟨_,rfl⟩
 rw [←hw2] at HI2 HG2 HR2 ⊢
 clear hw2 hod2 HREM c0 c1 f1 HI1 HG1 HRD HROW
 go_wp2_with fail
 go_loopw [8,9] (fun v i W=>∃ k q:Nat,i=.int .i64 (q:Int)∧Hid (q=k * 6)∧k * 6≤l.length∧W.ownsRow w2.heap.size 136 6 v (qbv (grp 6 k l)).size (flatK encK 6 (qbv (grp 6 k l))).toList∧Hid (Below w2.heap.size w2 W)) (fun _ i _=>l.length + 6 - (intOf i).toNat)
 case atStart=>exact ⟨0,0,rfl,hI (by simp),by omega,qda _ _ _ _ _,hI (Below.refl _ _)⟩
 case round =>
  obtain ⟨k,q,rfl,HQ,hk,hown,HB⟩:=hrel
  have hsz:(qbv (grp 6 k l)).size=k:=by unfold qbv;simp [qig]
  rw [hsz] at hown
  have hqb:q≤1000:=by have:=HQ.out;omega
  by_cases hlt:q + 6≤l.length
  ·have kz:(q:Int) + 6≤(l.length:Int):=by omega
   have kq:k * 6 + 6≤l.length:=by have:=HQ.out;omega
   obtain ⟨b1,off,rfl,hbl,f⟩:=(HR2.out.below HB.out) (by rw [qao];omega)
   have hG:=hI (grp_snoc 6 k l)
   have e0:wr.cell? ⟨b1,off + q,none⟩=some (.int .i64 ((l.getD (q + 0) 0:Nat):Int)):=by rw [show off + q=off + (q + 0) by omega,f (q + 0) (by rw [qao];omega),qbo (by omega)]
   have e1:wr.cell? ⟨b1,off + q + 1,none⟩=some (.int .i64 ((l.getD (q + 1) 0:Nat):Int)):=by rw [show off + q + 1=off + (q + 1) by omega,f (q + 1) (by rw [qao];omega),qbo (by omega)]
   have e2:wr.cell? ⟨b1,off + q + 2,none⟩=some (.int .i64 ((l.getD (q + 2) 0:Nat):Int)):=by rw [show off + q + 2=off + (q + 2) by omega,f (q + 2) (by rw [qao];omega),qbo (by omega)]
   have e3:wr.cell? ⟨b1,off + q + 3,none⟩=some (.int .i64 ((l.getD (q + 3) 0:Nat):Int)):=by rw [show off + q + 3=off + (q + 3) by omega,f (q + 3) (by rw [qao];omega),qbo (by omega)]
   have e4:wr.cell? ⟨b1,off + q + 4,none⟩=some (.int .i64 ((l.getD (q + 4) 0:Nat):Int)):=by rw [show off + q + 4=off + (q + 4) by omega,f (q + 4) (by rw [qao];omega),qbo (by omega)]
   have e5:wr.cell? ⟨b1,off + q + 5,none⟩=some (.int .i64 ((l.getD (q + 5) 0:Nat):Int)):=by rw [show off + q + 5=off + (q + 5) by omega,f (q + 5) (by rw [qao];omega),qbo (by omega)]
   have HS:Hid ((qbv (grp 6 (k + 1) l))=(qbv (grp 6 k l)).push (⟨((l.getD (q + 0) 0:Nat):Int),((l.getD (q + 1) 0:Nat):Int),((l.getD (q + 2) 0:Nat):Int),((l.getD (q + 3) 0:Nat):Int),((l.getD (q + 4) 0:Nat):Int),((l.getD (q + 5) 0:Nat):Int)⟩)):=by
    show _=_
    rw [hG.out]
    unfold qbv
    rw [List.map_append,List.map_cons,List.map_nil]
    unfold toK
    rw [qcc (j:=0) kq (by decide),qcc (j:=1) kq (by decide),qcc (j:=2) kq (by decide),qcc (j:=3) kq (by decide),qcc (j:=4) kq (by decide),qcc (j:=5) kq (by decide),←HQ.out]
    simp
   obtain ⟨y0,hy0⟩:∃ y:Int,((l.getD (q + 0) 0:Nat):Int)=y:=⟨_,rfl⟩
   rw [hy0] at e0 HS
   clear hy0
   obtain ⟨y1,hy1⟩:∃ y:Int,((l.getD (q + 1) 0:Nat):Int)=y:=⟨_,rfl⟩
   rw [hy1] at e1 HS
   clear hy1
   obtain ⟨y2,hy2⟩:∃ y:Int,((l.getD (q + 2) 0:Nat):Int)=y:=⟨_,rfl⟩
   rw [hy2] at e2 HS
   clear hy2
   obtain ⟨y3,hy3⟩:∃ y:Int,((l.getD (q + 3) 0:Nat):Int)=y:=⟨_,rfl⟩
   rw [hy3] at e3 HS
   clear hy3
   obtain ⟨y4,hy4⟩:∃ y:Int,((l.getD (q + 4) 0:Nat):Int)=y:=⟨_,rfl⟩
   rw [hy4] at e4 HS
   clear hy4
   obtain ⟨y5,hy5⟩:∃ y:Int,((l.getD (q + 5) 0:Nat):Int)=y:=⟨_,rfl⟩
   rw [hy5] at e5 HS
   clear hy5
   have HMK:=hI (fun W (hb:Below wr.heap.size wr W)=>mkK_any b1 (off + q) (cp - q) y0 y1 y2 y3 y4 y5 W ((hb.cell (qap e0)).trans e0) ((hb.cell (qap e1)).trans e1) ((hb.cell (qap e2)).trans e2) ((hb.cell (qap e3)).trans e3) ((hb.cell (qap e4)).trans e4) ((hb.cell (qap e5)).trans e5))
   clear f
   go_wp2_with fail
   refine (HMK.out _ (Below.refl _ _)).mono ?_
   rintro _ w5 ⟨rfl,hb5⟩
   have HBa:=hI (qad (qac HB.out hb5) (.cells #[.int .i64 y0,.int .i64 y1,.int .i64 y2,.int .i64 y3,.int .i64 y4,.int .i64 y5] 136))
   have hown2:=qbj hown (qad hb5 (.cells #[.int .i64 y0,.int .i64 y1,.int .i64 y2,.int .i64 y3,.int .i64 y4,.int .i64 y5] 136))
   clear HMK hb5 e0 e1 e2 e3 e4 e5
   go_wp2_with (at_builtin;refine wpList_append_own _ rfl _ _ 130 rfl w2.heap.size 136 i0 (.agg #[.int .i64 0,.int .i64 0,.int .i64 0,.int .i64 0,.int .i64 0,.int .i64 0]) 6 48 Tryz.underlying130 hi0 hz0 hz1 hz2 rfl (by decide) _ _ _ rfl hown2 ⟨w5.heap.size,0,none⟩ 1 1 [.int .i64 y0,.int .i64 y1,.int .i64 y2,.int .i64 y3,.int .i64 y4,.int .i64 y5] rfl rfl (qcl w5 _ _) (by simp [Value.oneCell']) (by unfold maxLen;omega) (by omega) (by have:=HBa.out.size;omega) ?_;intro v' w6 hown3 hgrow _)
   go_roundw
   case rel =>
    refine ⟨k + 1,q + 6,by go_num,hI (by have:=HQ.out;omega),by omega,?_,hI (qll HBa.out hown2 (Nat.le_refl _) hgrow)⟩
    rw [HS.out,Array.size_push,hsz,qcr (enc:=encK) (k:=6) (fun _=>rfl)]
    exact hown3
   case measure=>simp [intOf];omega
  ·have kz:decide ((q:Int) + 6≤(l.length:Int))=false:=decide_eq_false (by omega)
   have hkd:l.length / 6=k:=by have:=HQ.out;omega
   obtain ⟨A3,c3,rfl,h1,h2,h3,h4⟩:=qeo (d:=qbv (grp 6 k l)) (by rw [hsz];exact hown)
   have HK:=hI hkd
   have HRE:=hI (And.intro h1 (And.intro h2 (And.intro h3 h4)))
   clear hkd h1 h2 h3 h4 hown hsz hlt
   go_wp2
   go_ret
   rw [HK.out,HOD2.out]
   exact ⟨A3,c3,rfl,HRE.out.1,HRE.out.2.1,HRE.out.2.2.1,HRE.out.2.2.2.mono HG2.out.size,HI2.out.below HB.out,HG2.out.below HB.out⟩
end Go.Proofs.YtnmojicfmcbgmaaGreatDoor
