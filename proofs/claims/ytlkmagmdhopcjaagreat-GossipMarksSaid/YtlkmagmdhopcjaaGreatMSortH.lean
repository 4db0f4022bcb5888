/- Texts that the law leans on. -/
import Derived.Deep.CutRange
import Derived.Deep.CutBlock
import Derived.Shelf.SlSortCmp.Xorshift
import Derived.Test.YtlkmagmdhopcjaaGreatMRangesE
import Derived.Test.YtlkmagmdhopcjaaGreatMSortB
import Derived.Test.YtlkmagmdhopcjaaGreatMSortE
namespace Go.Proofs.YtlkmagmdhopcjaaGreat
open Go.RowKit Go.Sort Go.Lib
theorem next_any (rb X:Nat) (hX:X < 18446744073709551616) (w:World) (hc:w.cell? ⟨rb,0,none⟩=some (.int .u64 X)) (hf:w.frozen? ⟨rb,0,none⟩=false) :
 Calls Tryz.prog 302 #[.pointer (some ⟨rb,0,none⟩)] w fun e w'=>∃ Y:Nat,e=.returned (.int .u64 Y)∧Y < 18446744073709551616∧w'=(w.setCell ⟨rb,0,none⟩ (.int .u64 Y)).drewN 3 :=
 (AnyF.xorshift_Next (P:=Tryz.prog) (ρ:=Tryz.laysSort_ren) { Tryz.laysSort with } rb 0 X hX w hc hf).mono fun _ _ ⟨he,hw⟩=>⟨_,he,xorNextN_lt X hX,hw⟩
theorem pow_any (n:Nat) (hn:n≤1000000) (h0:0 < n) (w:World) :
 Calls Tryz.prog 301 #[.int .i64 n] w fun e w'=>∃ M:Nat,e=.returned (.int .u64 M)∧1≤M∧M≤2 * n∧w'=w :=
 (AnyF.nextPowerOfTwo (P:=Tryz.prog) (ρ:=Tryz.laysSort_ren) { Tryz.laysSort with } n (by omega) w).mono fun _ _ ⟨he,hw⟩=>⟨_,he,by rw [Nat.one_shiftLeft];exact Nat.one_le_two_pow,by rw [Nat.one_shiftLeft];exact two_pow_bitsLen_le h0,hw⟩
theorem Srt.other {w w1:World} {blk off sb:Nat} {d:Array (Int×Int)} (h:Srt w blk off d w1) (hne:sb≠blk) (hge:w.heap.size≤sb) (v:Value) (n:Nat):Srt w blk off d ((w1.setCell ⟨sb,0,none⟩ v).drewN n):=by
 have e:∀ g,g≠sb→((w1.setCell ⟨sb,0,none⟩ v).drewN n).heap[g]?=w1.heap[g]?:=fun g hg=>RowKit.Below.heap_setCell _ _ _ _ hg
 refine ⟨fun t ht=>⟨(World.cell?_of_block (a:=⟨blk,off + t,none⟩) (e blk (Ne.symm hne))).trans (h.holds t ht).1,(World.frozen?_of_block (a:=⟨blk,off + t,none⟩) (e blk (Ne.symm hne))).trans (h.holds t ht).2⟩,h.lt,?_,fun g hg hg'=>(e g (by omega)).trans (h.block g hg hg'),h.os,h.tape,h.output⟩
 show w.heap.size≤(w1.heap.modify _ _).size
 rw [Array.size_modify];exact h.size
theorem qld {W:World} {g blk:Nat} (h:g≠blk) (o1 o2 o3 o4:Nat) (v1 v2 v3 v4:Value):((((W.drew.setCell ⟨blk,o1,none⟩ v1).setCell ⟨blk,o2,none⟩ v2).setCell ⟨blk,o3,none⟩ v3).setCell ⟨blk,o4,none⟩ v4).heap[g]?=W.heap[g]?:=by
 rw [RowKit.Below.heap_setCell _ _ _ _ h,RowKit.Below.heap_setCell _ _ _ _ h,RowKit.Below.heap_setCell _ _ _ _ h,RowKit.Below.heap_setCell _ _ _ _ h];rfl
theorem one_u {W:World} {B:Nat} {v:Value} {t:TypeId} (h:W.heap[B]?=some (.cells #[v] t (0,0))):W.cell? ⟨B,0,none⟩=some v∧W.frozen? ⟨B,0,none⟩=false:=by
 simp [World.cell?,World.frozen?,h]
set_option maxRecDepth 100000 in
set_option maxHeartbeats 16000000 in
theorem brk_any (blk off cap a b N:Nat) (d:Array (Int×Int)) (w:World) (hH:HoldsK qaf 2 w blk off d) (hblk:blk < w.heap.size) (hN:d.size=N) (hab:a + 12 < b) (hb:b≤N) (hsz:N≤1000000) :
 Calls Tryz.prog 276 #[.slice (some ⟨blk,off,none⟩) N cap,.int .i64 a,.int .i64 b,.func (.func 215) #[.agg #[]] #[]] w fun e w'=>e=.returned (.tuple #[])∧∃ d',PermIn a b d d'∧Srt w blk off d' w':=by
 have hS0:=(Srt.refl hH hblk).below (bel1 w (.cells #[.int .u64 ((b:Int) - (a:Int))] 296))
 have HN:=hI hN
 clear hH hN
 obtain ⟨L,n1,n2⟩:∃ n,n≤b - a∧b - a≤n:=⟨_,Nat.le_refl _,Nat.le_refl _⟩
 obtain ⟨q,q1,q2⟩:∃ n,n≤L / 4∧L / 4≤n:=⟨_,Nat.le_refl _,Nat.le_refl _⟩
 obtain ⟨x0,x1,x2⟩:∃ n,n + 1≤a + q * 2∧a + q * 2≤n + 1:=⟨a + q * 2 - 1,by omega,by omega⟩
 obtain ⟨x3,x4,x5⟩:∃ n,n≤a + q * 2∧a + q * 2≤n:=⟨_,Nat.le_refl _,Nat.le_refl _⟩
 have s1:(b:Int) - (a:Int)=(L:Int):=by omega
 have s6:(8:Int)≤(L:Int):=by omega
 have hL:12 < L:=by omega
 rw [s1] at hS0
 have hb0:(w.alloc (.cells #[.int .u64 (L:Int)] 296)).heap[w.heap.size]?=some (.cells #[.int .u64 (L:Int)] 296 (0,0)):=heap_alloc_new w _
 go_enter Tryz.func276,Tryz.ntmps276
 go_wp2_with fail
 generalize w.alloc (.cells #[.int .u64 (L:Int)] 296)=w0 at hS0 hb0 ⊢
 refine (pow_any L (by omega) (by omega) _).mono ?_
 rintro e w1 ⟨M,rfl,m1,m2,rfl⟩
 go_wp2
 go_loopw [11] (fun vi wr=>∃ (x X:Nat) (dk:Array (Int×Int)),vi=.int .i64 x∧x0≤x∧x≤x0 + 3∧X < 18446744073709551616∧wr.heap[w.heap.size]?=some (.cells #[.int .u64 (X:Int)] 296 (0,0))∧PermIn a b d dk∧Srt w blk off dk wr) (fun vi _=>x0 + 3 - (intOf vi).toNat)
 case atStart=>exact ⟨x0,L,d,by congr 1;omega,Nat.le_refl _,by omega,by omega,hb0,permIn_refl _ _ _,hS0⟩
 case round =>
  clear hS0 hb0
  obtain ⟨x,X,dk,rfl,h1,h2,hX,hcell,hp,hS⟩:=hrel
  have hsk:dk.size=N:=hp.1.trans HN.out
  have k1:dk.size≤N:=Nat.le_of_eq hsk
  have k2:N≤dk.size:=Nat.le_of_eq hsk.symm
  have HP:=hI hp
  clear hp hsk
  by_cases hx:x≤x0 + 2
  ·have hz:(x:Int)≤(a:Int) + (L:Int) / 4 * 2 + 1:=by omega
   obtain ⟨c1,c2⟩:=one_u hcell
   have HX:=hI (next_any w.heap.size X hX wr c1 c2)
   have HCL:=hI hcell
   clear c1 c2 hcell
   go_wp2_with fail
   refine HX.out.mono ?_
   rintro e w2 ⟨Y,rfl,hY,hw2⟩
   have hS2:Srt w blk off dk w2:=by rw [hw2];exact hS.other (by omega) (Nat.le_refl _) _ _
   have hcell2:w2.heap[w.heap.size]?=some (.cells #[.int .u64 (Y:Int)] 296 (0,0)):=by
    rw [hw2]
    show (wr.heap.modify _ _)[w.heap.size]?=_
    rw [Array.getElem?_modify,if_pos rfl,HCL.out]
    rfl
   clear hw2 hS HX HCL
   obtain ⟨O,hO1,hO2⟩:∃ O:Nat,O≤M - 1∧Hid (bits .and .u64 (Y:Int) ((M:Int) - 1)=(O:Int)):=⟨Y &&& (M - 1),Nat.and_le_right,by show _=_;rw [show ((M:Int) - 1)=((M - 1:Nat):Int) by omega,bits_and_u64_nat _ _ hY (by omega)]⟩
   have eAnd:=hO2.out
   clear hO2
   by_cases hOL:L≤O
   ·have hz1:(L:Int)≤(O:Int):=by omega
    obtain ⟨o2,g3,g4⟩:∃ n,n≤O - L∧O - L≤n:=⟨_,Nat.le_refl _,Nat.le_refl _⟩
    have e5:(O:Int) - (L:Int)=(o2:Int):=by omega
    obtain ⟨ao,g1,g2⟩:∃ n,n≤a + o2∧a + o2≤n:=⟨_,Nat.le_refl _,Nat.le_refl _⟩
    have e3:(a:Int) + (o2:Int)=(ao:Int):=by omega
    have e3w:IntKind.i64.wrap ((a:Int) + (o2:Int))=(ao:Int):=by rw [IntKind.wrap_i64];omega
    have e4w:IntKind.i64.wrap (ao:Int)=(ao:Int):=by rw [IntKind.wrap_i64];omega
    have i1:(x:Int) < (N:Int):=by omega
    have i2:(ao:Int) < (N:Int):=by omega
    by_cases heq:x=ao
    ·subst heq
     obtain ⟨y1,hy1⟩:∃ y,dk[x]! = y:=⟨_,rfl⟩
     obtain ⟨a1,z1,a2,z2⟩:=hS2.own (i:=x) (by omega)
     have hsw:=hS2.swap (i:=x) (j:=x) (by omega) (by omega)
     have HP2:=hI (permIn_trans _ _ _ _ _ HP.out (swp_permIn dk a b x x (by omega) (by omega) (by omega) (by omega) (by omega)))
     rw [hy1] at a1 a2
     rw [hy1] at hsw
     clear hy1
     have HSW:=hI hsw
     have hne:w.heap.size≠blk:=by omega
     clear hsw hS2
     go_wp2_with fail
     go_region
     all_goals go_wp2
     exact ⟨⟨x + 1,Y,swp dk x x,by go_num,by omega,by omega,hY,(qld hne _ _ _ _ _ _ _ _).trans hcell2,HP2.out,HSW.out⟩,by simp [intOf];omega⟩
    ·skip
     obtain ⟨y1,hy1⟩:∃ y,dk[x]! = y:=⟨_,rfl⟩
     obtain ⟨a1,z1,a2,z2⟩:=hS2.own (i:=x) (by omega)
     have hsw:=hS2.swap (i:=x) (j:=ao) (by omega) (by omega)
     have HP2:=hI (permIn_trans _ _ _ _ _ HP.out (swp_permIn dk a b x ao (by omega) (by omega) (by omega) (by omega) (by omega)))
     rw [hy1] at a1 a2
     obtain ⟨y2,hy2⟩:∃ y,dk[ao]! = y:=⟨_,rfl⟩
     obtain ⟨a3,z3,a4,z4⟩:=hS2.own (i:=ao) (by omega)
     rw [hy2] at a3 a4
     rw [hy1,hy2] at hsw
     clear hy1 hy2
     have HSW:=hI hsw
     have hne:w.heap.size≠blk:=by omega
     clear hsw hS2
     go_wp2_with fail
     go_region
     all_goals go_wp2
     exact ⟨⟨x + 1,Y,swp dk x ao,by go_num,by omega,by omega,hY,(qld hne _ _ _ _ _ _ _ _).trans hcell2,HP2.out,HSW.out⟩,by simp [intOf];omega⟩
   ·have hz1:¬ (L:Int)≤(O:Int):=by omega
    have hz1d:decide (L≤O)=false:=by simp;omega
    obtain ⟨ao,g1,g2⟩:∃ n,n≤a + O∧a + O≤n:=⟨_,Nat.le_refl _,Nat.le_refl _⟩
    have e3:(a:Int) + (O:Int)=(ao:Int):=by omega
    have e3w:IntKind.i64.wrap ((a:Int) + (O:Int))=(ao:Int):=by rw [IntKind.wrap_i64];omega
    have e4w:IntKind.i64.wrap (ao:Int)=(ao:Int):=by rw [IntKind.wrap_i64];omega
    have i1:(x:Int) < (N:Int):=by omega
    have i2:(ao:Int) < (N:Int):=by omega
    by_cases heq:x=ao
    ·subst heq
     obtain ⟨y1,hy1⟩:∃ y,dk[x]! = y:=⟨_,rfl⟩
     obtain ⟨a1,z1,a2,z2⟩:=hS2.own (i:=x) (by omega)
     have hsw:=hS2.swap (i:=x) (j:=x) (by omega) (by omega)
     have HP2:=hI (permIn_trans _ _ _ _ _ HP.out (swp_permIn dk a b x x (by omega) (by omega) (by omega) (by omega) (by omega)))
     rw [hy1] at a1 a2
     rw [hy1] at hsw
     clear hy1
     have HSW:=hI hsw
     have hne:w.heap.size≠blk:=by omega
     clear hsw hS2
     go_wp2_with fail
     go_region
     all_goals go_wp2
     exact ⟨⟨x + 1,Y,swp dk x x,by go_num,by omega,by omega,hY,(qld hne _ _ _ _ _ _ _ _).trans hcell2,HP2.out,HSW.out⟩,by simp [intOf];omega⟩
    ·skip
     obtain ⟨y1,hy1⟩:∃ y,dk[x]! = y:=⟨_,rfl⟩
     obtain ⟨a1,z1,a2,z2⟩:=hS2.own (i:=x) (by omega)
     have hsw:=hS2.swap (i:=x) (j:=ao) (by omega) (by omega)
     have HP2:=hI (permIn_trans _ _ _ _ _ HP.out (swp_permIn dk a b x ao (by omega) (by omega) (by omega) (by omega) (by omega)))
     rw [hy1] at a1 a2
     obtain ⟨y2,hy2⟩:∃ y,dk[ao]! = y:=⟨_,rfl⟩
     obtain ⟨a3,z3,a4,z4⟩:=hS2.own (i:=ao) (by omega)
     rw [hy2] at a3 a4
     rw [hy1,hy2] at hsw
     clear hy1 hy2
     have HSW:=hI hsw
     have hne:w.heap.size≠blk:=by omega
     clear hsw hS2
     go_wp2_with fail
     go_region
     all_goals go_wp2
     exact ⟨⟨x + 1,Y,swp dk x ao,by go_num,by omega,by omega,hY,(qld hne _ _ _ _ _ _ _ _).trans hcell2,HP2.out,HSW.out⟩,by simp [intOf];omega⟩
  ·have hz:¬ (x:Int)≤(a:Int) + (L:Int) / 4 * 2 + 1:=by omega
   have hzd:decide ((x:Int)≤(a:Int) + (L:Int) / 4 * 2 + 1)=false:=by simp;omega
   go_wp2
   go_end0
   exact ⟨rfl,dk,HP.out,hS⟩
end Go.Proofs.YtlkmagmdhopcjaaGreat
namespace Go.Proofs.YtlkmagmdhopcjaaGreat
open Go.RowKit Go.Sort Go.Lib
theorem swoL:SWO qae where
 irrefl x:=by unfold qae;simp
 trans x y z h1 h2:=by unfold qae at *;simp at *;omega
 ntrans x y z h1 h2:=by unfold qae at *;simp at *;omega
theorem Srt.of_sw {w:World} {blk off:Nat} {d dk:Array (Int×Int)} (hH:HoldsK qaf 2 w blk off d) (hl:blk < w.heap.size) (hs:dk.size=d.size) (m:Nat) (os:Array Obj):Srt w blk off dk (sortWorldK qaf 2 w blk off m dk os):=by
 refine ⟨holdsK_sortWorldK_c qaf 2 w blk off d dk m os hH hl hs,hl,size_sortWorldK_c qaf 2 w blk off m dk os,fun g hg hne=>?_,rfl,rfl,rfl⟩
 show ((putRowK qaf 2 (Sort.ahead w _) blk off _).heap ++ _)[g]?=_
 rw [Array.getElem?_append_left (by rw [size_putRowK];exact hg)]
 show ((Sort.ahead w _).heap.modify blk _)[g]?=_
 rw [Array.getElem?_modify,if_neg (Ne.symm hne)]
 rfl
theorem insN_any (blk off cap a b N:Nat) (d:Array (Int×Int)) (w:World) (hH:HoldsK qaf 2 w blk off d) (hblk:blk < w.heap.size) (hN:d.size=N) (hab:a≤b) (hb:b≤N) (hsz:N≤1000000) :
 Calls Tryz.prog 274 #[.slice (some ⟨blk,off,none⟩) N cap,.int .i64 a,.int .i64 b,.func (.func 215) #[.agg #[]] #[]] w fun e w'=>e=.returned (.tuple #[])∧∃ d',PermIn a b d d'∧SortedIn qae a b d'∧Srt w blk off d' w':=by
 subst hN
 refine (ins_any blk off cap a b d w hH hblk hab hb (by omega)).mono ?_
 rintro e w' ⟨he,n,os,hw⟩
 rw [ltOf_cmpA] at hw
 have h:=insertionSort_holds (lt:=qae) swoL d a b hab hb
 exact ⟨he,_,h.1,h.2,by rw [hw];exact Srt.of_sw hH hblk h.1.1 n os⟩
theorem heapN_any (blk off cap a b N:Nat) (d:Array (Int×Int)) (w:World) (hH:HoldsK qaf 2 w blk off d) (hblk:blk < w.heap.size) (hN:d.size=N) (hab:a < b) (hb:b≤N) (hsz:N≤1000000) :
 Calls Tryz.prog 275 #[.slice (some ⟨blk,off,none⟩) N cap,.int .i64 a,.int .i64 b,.func (.func 215) #[.agg #[]] #[]] w fun e w'=>e=.returned (.tuple #[])∧∃ d',PermIn a b d d'∧SortedIn qae a b d'∧Srt w blk off d' w' :=
 (heap_any blk off cap a b N d w hH hblk hN hab hb hsz).mono fun _ _ ⟨he,hS⟩ =>
   ⟨he,_,(heapSort_holds (lt:=qae) swoL d a b (by omega) (by omega)).1,(heapSort_holds (lt:=qae) swoL d a b (by omega) (by omega)).2,hS⟩
theorem pinsN_any (blk off cap a b N:Nat) (d:Array (Int×Int)) (w:World) (hH:HoldsK qaf 2 w blk off d) (hblk:blk < w.heap.size) (hN:d.size=N) (hab:a < b) (hb:b≤N) (hsz:N≤1000000) (hB:Sort.Below qae a b d) :
 Calls Tryz.prog 279 #[.slice (some ⟨blk,off,none⟩) N cap,.int .i64 a,.int .i64 b,.func (.func 215) #[.agg #[]] #[]] w fun e w'=>∃ (r:Bool) (d':Array (Int×Int)),e=.returned (.bool r)∧PermIn a b d d'∧(r=true→SortedIn qae a b d')∧Srt w blk off d' w' :=
 (pins_any blk off cap a b N d w hH hblk hN hab hb hsz).mono fun _ _ ⟨he,hS⟩ =>
   ⟨_,_,he,(partialInsertionSort_holds (lt:=qae) swoL d a b hab (by omega) hB).1,(partialInsertionSort_holds (lt:=qae) swoL d a b hab (by omega) hB).2,hS⟩
def parB (x y:Bool) (h:Nat):Bool:=x && y && (h == 1)
def peB (d:Array (Int×Int)) (a p:Nat):Bool:=decide (0 < a) && !qae d[a - 1]! d[p]!
def Todo (A B:Nat) (D:Array (Int×Int)) (a b:Nat) (d:Array (Int×Int)):Prop:=∀ R,PermIn a b d R→SortedIn qae a b R→PermIn A B D R∧SortedIn qae A B R
theorem Todo.perm {A B a b:Nat} {D d d':Array (Int×Int)} (h:Todo A B D a b d) (hp:PermIn a b d d'):Todo A B D a b d':=fun R h1 h2=>h R (permIn_trans _ _ _ _ _ hp h1) h2
set_option maxRecDepth 100000 in
set_option maxHeartbeats 16000000 in
theorem pdq_any (m:Nat):∀ (blk off cap a b N limit:Nat) (d:Array (Int×Int)) (w:World),b - a≤m→HoldsK qaf 2 w blk off d→blk < w.heap.size→d.size=N→a≤b→b≤N→N≤1000000→limit≤64→Sort.Below qae a b d →
 Calls Tryz.prog 260 #[.slice (some ⟨blk,off,none⟩) N cap,.int .i64 a,.int .i64 b,.int .i64 limit,.func (.func 215) #[.agg #[]] #[]] w fun e w'=>e=.returned (.tuple #[])∧∃ d',PermIn a b d d'∧SortedIn qae a b d'∧Srt w blk off d' w':=by
 induction m using Nat.strongRecOn with
 | ind m ih =>
   intro blk off cap a b N limit d w hm hH hblk hN hab hb hsz hlim hBel
   have hS0:=Srt.refl hH hblk
   have HN:=hI hN
   have HB0:=hI hBel
   clear hH hN hBel
   go_enter Tryz.func260,Tryz.ntmps260
   go_wp2
   go_loopw [1,2,3,10,11] (fun v1 v2 v3 v10 v11 wr=>∃ (a' b' l:Nat) (wb wp:Bool) (dk:Array (Int×Int)),v1=.int .i64 a'∧v2=.int .i64 b'∧v3=.int .i64 l∧v10=.bool wb∧v11=.bool wp∧a≤a'∧a'≤b'∧b'≤b∧l≤limit∧dk.size=N∧Sort.Below qae a' b' dk∧Srt w blk off dk wr∧Todo a b d a' b' dk) (fun v1 v2 _ _ _ _=>(intOf v2 - intOf v1).toNat)
   case atStart=>exact ⟨a,b,limit,true,true,d,rfl,rfl,rfl,rfl,rfl,Nat.le_refl _,hab,Nat.le_refl _,Nat.le_refl _,HN.out,HB0.out,hS0,fun R h1 h2=>⟨h1,h2⟩⟩
   case round =>
    clear hS0
    obtain ⟨a',b',l,wb,wp,dk,rfl,rfl,rfl,rfl,rfl,t1,t2,t3,t4,hsk,hbel,hS,htodo⟩:=hrel
    have HSK:=hI hsk
    have HBL:=hI hbel
    have HT0:=hI htodo
    clear hsk hbel htodo
    obtain ⟨n,w7,w8⟩:∃ n,n≤b' - a'∧b' - a'≤n:=⟨_,Nat.le_refl _,Nat.le_refl _⟩
    have s3:(b':Int) - (a':Int)=(n:Int):=by omega
    by_cases h12:n≤12
    ·have h12z:(n:Int)≤12:=by omega
     have HX:=hI (insN_any blk off cap a' b' N dk _ hS.holds hS.lt1 HSK.out (by omega) (by omega) hsz)
     go_wp2_with fail
     refine HX.out.mono ?_
     rintro e w5 ⟨rfl,d5,hp5,hs5,hS5⟩
     have HF:=hI (HT0.out d5 hp5 hs5)
     have hS6:=hS.trans hS5
     clear hp5 hs5 hS5 HX
     go_wp2
     exact bodyPost_ret (v:=.tuple #[]) (qck rfl _ _ _) rfl ⟨rfl,d5,HF.out.1,HF.out.2,hS6⟩
    ·have h12z:decide ((n:Int)≤12)=false:=by simp;omega
     have h12y:¬ (n:Int)≤12:=by omega
     by_cases hl0:l=0
     ·subst hl0
      have HX:=hI (heapN_any blk off cap a' b' N dk _ hS.holds hS.lt1 HSK.out (by omega) (by omega) hsz)
      go_wp2_with fail
      refine HX.out.mono ?_
      rintro e w5 ⟨rfl,d5,hp5,hs5,hS5⟩
      have HF:=hI (HT0.out d5 hp5 hs5)
      have hS6:=hS.trans hS5
      clear hp5 hs5 hS5 HX
      go_wp2
      exact bodyPost_ret (v:=.tuple #[]) (qck rfl _ _ _) rfl ⟨rfl,d5,HF.out.1,HF.out.2,hS6⟩
     ·have hl1:((l:Int) == 0)=false:=by simp;omega
      have hl2:(l == 0)=false:=by simp;omega
      go_upto_if 39 with fail
      go_cut [3] from 21 to 147 (fun s wx=>∃ (l1:Nat) (d1:Array (Int×Int)),s=.int .i64 l1∧l1≤l∧PermIn a' b' dk d1∧Srt w blk off d1 wx)
      case first =>
       cases wb with
       | true =>
         go_wp2_with fail
         go_meet
         exact ⟨l,dk,rfl,Nat.le_refl _,permIn_refl _ _ _,hS⟩
       | false =>
         have HX:=hI (brk_any blk off cap a' b' N dk _ hS.holds hS.lt1 HSK.out (by omega) (by omega) hsz)
         obtain ⟨l0,g1,g2⟩:∃ n,n + 1≤l∧l≤n + 1:=⟨l - 1,by omega,by omega⟩
         have sl:(l:Int) - 1=(l0:Int):=by omega
         go_wp2_with fail
         refine HX.out.mono ?_
         rintro e w5 ⟨rfl,d1,hp1,hS1⟩
         have HP1:=hI hp1
         have hS2:=hS.trans hS1
         clear hp1 hS1 HX hS
         go_wp2_with fail
         go_meet
         exact ⟨l0,d1,rfl,by omega,HP1.out,hS2⟩
      case rest =>
       clear hS
       obtain ⟨l1,d1,rfl,hl1,hp1,hS⟩:=hcut
       have HSK1:Hid (d1.size=N):=hp1.1.trans HSK.out
       have HBL1:=hI (HBL.out.perm (by rw [HSK.out];omega) hp1)
       have HT1:=hI (HT0.out.perm hp1)
       clear hp1
       have HX:=hI (piv_any blk off cap a' b' N d1 _ hS.holds hS.lt1 HSK1.out (by omega) (by omega) hsz)
       go_wp2_with fail
       refine HX.out.mono ?_
       rintro e w3 ⟨p0,h0,rfl,hp0,hp0',hh0,hb3⟩
       have hS':=hS.below hb3
       clear hS hb3 HX
       have hS:=hS'
       clear hS'
       go_upto_if 56 with fail
       go_cut [13,14] from 21 to 147 (fun s13 s14 wx=>∃ (p h2:Nat) (d2:Array (Int×Int)),s13=.int .i64 p∧s14=.int .i64 h2∧(a'≤p∧p < b')∧h2≤2∧PermIn a' b' d1 d2∧Srt w blk off d2 wx)
       case first =>
        by_cases hh:h0=2
        ·subst hh
         have HX:=hI (rev_any blk off cap a' b' N d1 _ hS.holds hS.lt1 HSK1.out (by omega) (by omega) hsz)
         obtain ⟨b1,g1,g2⟩:∃ n,n + 1≤b'∧b'≤n + 1:=⟨b' - 1,by omega,by omega⟩
         obtain ⟨pa,g3,g4⟩:∃ n,n≤p0 - a'∧p0 - a'≤n:=⟨_,Nat.le_refl _,Nat.le_refl _⟩
         obtain ⟨p2,g5,g6⟩:∃ n,n≤b1 - pa∧b1 - pa≤n:=⟨_,Nat.le_refl _,Nat.le_refl _⟩
         have sb:(b':Int) - 1=(b1:Int):=by omega
         have sp:(p0:Int) - (a':Int)=(pa:Int):=by omega
         have sq:(b1:Int) - (pa:Int)=(p2:Int):=by omega
         go_wp2_with fail
         refine HX.out.mono ?_
         rintro e w5 ⟨rfl,d2,hp2,hS1⟩
         have HP2:=hI hp2
         have hS2:=hS.trans hS1
         clear hp2 hS1 HX hS
         go_wp2_with fail
         go_meet
         exact ⟨p2,1,d2,rfl,rfl,by omega,by omega,HP2.out,hS2⟩
        ·have hq1:((h0:Int) == 2)=false:=by simp;omega
         have hq2:(h0 == 2)=false:=by simp;omega
         go_wp2_with fail
         go_meet
         exact ⟨p0,h0,d1,rfl,rfl,by omega,by omega,permIn_refl _ _ _,hS⟩
       case rest =>
        clear hS
        obtain ⟨p,h2,d2,rfl,rfl,hpp,hh2,hp2,hS⟩:=hcut
        have HSK2:Hid (d2.size=N):=hp2.1.trans HSK1.out
        have HBL2:=hI (HBL1.out.perm (by rw [HSK1.out];omega) hp2)
        have HT2:=hI (HT1.out.perm hp2)
        clear hp2
        go_upto_region 15 with fail
        go_cut [75] from 21 to 147 (fun s wx=>s=.bool (parB wb wp h2)∧Srt w blk off d2 wx)
        case first =>
         have hdone:∀ r:Bool,r=parB wb wp h2→Value.bool r=.bool (parB wb wp h2):=fun r h=>by rw [h]
         have HD:=hI hdone
         clear hdone
         by_cases hh:h2=1
         ·subst hh
          cases wb <;> cases wp
          all_goals
           go_wp2_with fail
           go_meet
           exact ⟨HD.out _ rfl,hS⟩
         ·have hq1:((h2:Int) == 1)=false:=by simp;omega
          have hq2:(h2 == 1)=false:=by simp;omega
          have hpb:Hid (∀ x y,parB x y h2=false):=fun x y=>by unfold parB;rw [hq2];simp
          cases wb <;> cases wp
          all_goals
           go_wp2_with fail
           go_meet
           exact ⟨HD.out _ (hpb.out _ _).symm,hS⟩
        case rest =>
         clear hS
         obtain ⟨rfl,hS⟩:=hcut
         go_upto_if 75 with fail
         go_cut [] from 21 to 147 (fun wx=>∃ d3:Array (Int×Int),PermIn a' b' d2 d3∧Srt w blk off d3 wx)
         case first =>
          cases hT1:parB wb wp h2
          ·have HT1':=hI hT1
           go_wp2_with fail
           go_meet
           exact ⟨d2,permIn_refl _ _ _,hS⟩
          ·have HT1':=hI hT1
           have HX:=hI (pinsN_any blk off cap a' b' N d2 _ hS.holds hS.lt1 HSK2.out (by omega) (by omega) hsz HBL2.out)
           go_wp2_with fail
           refine HX.out.mono ?_
           rintro e w5 ⟨r,d3,rfl,hp3,hso,hS1⟩
           have HP3:=hI hp3
           have HSO:=hI hso
           have hS2:=hS.trans hS1
           clear hp3 hso hS1 HX hS
           cases r with
           | true =>
             go_wp2
             have hfin:=HT2.out d3 HP3.out (by first | exact HSO.out rfl | exact HSO.out trivial)
             exact bodyPost_ret (v:=.tuple #[]) (qck rfl _ _ _) rfl ⟨rfl,d3,hfin.1,hfin.2,hS2⟩
           | false =>
             go_wp2_with fail
             go_meet
             exact ⟨d3,HP3.out,hS2⟩
         case rest =>
          clear hS
          obtain ⟨d3,hp3,hS⟩:=hcut
          have HSK3:Hid (d3.size=N):=hp3.1.trans HSK2.out
          have k5:d3.size≤N:=Nat.le_of_eq HSK3.out
          have k6:N≤d3.size:=Nat.le_of_eq HSK3.out.symm
          have HBL3:=hI (HBL2.out.perm (by rw [HSK2.out];omega) hp3)
          have HT3:=hI (HT2.out.perm hp3)
          clear hp3
          go_upto_region 17 with fail
          go_cut [97] from 21 to 147 (fun s wx=>s=.bool (peB d3 a' p)∧Srt w blk off d3 wx)
          case first =>
           by_cases ha0:0 < a'
           ·have ha0z:(0:Int) < (a':Int):=by omega
            obtain ⟨am,y1,y2⟩:∃ n,n + 1≤a'∧a'≤n + 1:=⟨a' - 1,by omega,by omega⟩
            have eam:(a':Int) - 1=(am:Int):=by omega
            have eamw:IntKind.i64.wrap ((a':Int) - 1)=(am:Int):=by rw [IntKind.wrap_i64];omega
            have eamv:IntKind.i64.wrap (am:Int)=(am:Int):=by rw [IntKind.wrap_i64];omega
            have ham:Hid (a' - 1=am):=by show _=_;omega
            have bam:(am:Int) < (N:Int):=by omega
            have bp:(p:Int) < (N:Int):=by omega
            obtain ⟨xi,hxi⟩:∃ x,d3[am]! = x:=⟨_,rfl⟩
            obtain ⟨xj,hxj⟩:∃ x,d3[p]! = x:=⟨_,rfl⟩
            have p0':=fun q=>(hS.cells (i:=am) (by omega) q).1
            have p1':=fun q=>(hS.cells (i:=am) (by omega) q).2
            have q0':=fun q=>(hS.cells (i:=p) (by omega) q).1
            have q1':=fun q=>(hS.cells (i:=p) (by omega) q).2
            simp only [hxi] at p0' p1'
            simp only [hxj] at q0' q1'
            have hcv1:=fun W=>qcl xi xj W
            have HLv1:=hI (qbu xi xj)
            generalize cmpA xi xj=v1 at hcv1 HLv1
            have HCv1:=hI hcv1
            clear hcv1
            have HT:Hid (peB d3 a' p = !decide (v1 < 0)):=by show _=_;unfold peB;rw [ham.out,hxi,hxj,HLv1.out];simp [ha0]
            clear hxi hxj
            by_cases hv:v1 < 0
            ·skip
             go_wp2_with fail
             refine qad (by kernel_rfl) (by kernel_rfl) ?_
             repeat (first | go_big_quiet_step ((go_at_call 215;exact Calls.ext_of (HCv1.out _))) | quiet_step ((go_at_call 215;exact Calls.ext_of (HCv1.out _))))
             refine wpQuiet_nil ?_
             intro w' hw'
             obtain ⟨⟨W,hbW⟩,hw''⟩:=hw'
             have hw3:w'=W:=hw''
             subst hw3
             have hS2:=hS.below hbW
             clear hbW hw''
             clear p0' p1' q0' q1'
             go_wp2_with fail
             go_meet
             exact ⟨congrArg Value.bool (HT.out.trans (by simp [hv])).symm,hS2⟩
            ·have hvd:decide (v1 < 0)=false:=by simp;omega
             go_wp2_with fail
             refine qad (by kernel_rfl) (by kernel_rfl) ?_
             repeat (first | go_big_quiet_step ((go_at_call 215;exact Calls.ext_of (HCv1.out _))) | quiet_step ((go_at_call 215;exact Calls.ext_of (HCv1.out _))))
             refine wpQuiet_nil ?_
             intro w' hw'
             obtain ⟨⟨W,hbW⟩,hw''⟩:=hw'
             have hw3:w'=W:=hw''
             subst hw3
             have hS2:=hS.below hbW
             clear hbW hw''
             clear p0' p1' q0' q1'
             go_wp2_with fail
             go_meet
             exact ⟨congrArg Value.bool (HT.out.trans (by simp [hv])).symm,hS2⟩
           ·have ha0d:decide ((0:Int) < (a':Int))=false:=by simp;omega
            have ha0z:¬ (0:Int) < (a':Int):=by omega
            have HT:Hid (peB d3 a' p=false):=by show _=_;unfold peB;simp [ha0]
            go_wp2_with fail
            go_quiet (fail)
            go_wp2_with fail
            go_meet
            exact ⟨congrArg Value.bool HT.out.symm,hS.below (qbc (RowKit.Below.refl _ _) nq)⟩
          case rest =>
           clear hS
           obtain ⟨rfl,hS⟩:=hcut
           cases hT:peB d3 a' p
           ·skip
            have HX:=hI (part_any blk off cap a' b' p N d3 _ hS.holds hS.lt1 HSK3.out (by omega) (by omega) (by omega) hsz)
            have HR:=hI (round_part swoL (partition_holds qae) (d3:=d3) (a:=a') (b:=b') (pivot:=p) (mid:=(partition qae d3 a' b' p).1) (ap:=(partition qae d3 a' b' p).2.1) (d4:=(partition qae d3 a' b' p).2.2) (by omega) (by omega) (by omega) HBL3.out rfl)
            have HT3':=hI hT
            clear hT
            generalize partition qae d3 a' b' p=res at HX HR
            obtain ⟨mid,ap,d4⟩:=res
            have m1:=HR.out.1
            have m2:=HR.out.2.1
            have HSK4:Hid (d4.size=N):=HR.out.2.2.1.trans HSK3.out
            simp only at m1 m2 HX
            obtain ⟨ll,g1,g2⟩:∃ n,n≤mid - a'∧mid - a'≤n:=⟨_,Nat.le_refl _,Nat.le_refl _⟩
            obtain ⟨rl,g3,g4⟩:∃ n,n≤b' - mid∧b' - mid≤n:=⟨_,Nat.le_refl _,Nat.le_refl _⟩
            have sl1:(mid:Int) - (a':Int)=(ll:Int):=by omega
            have sl2:(b':Int) - (mid:Int)=(rl:Int):=by omega
            obtain ⟨mid1,g5,g6⟩:∃ n,n≤mid + 1∧mid + 1≤n:=⟨_,Nat.le_refl _,Nat.le_refl _⟩
            have sm:(mid:Int) + 1=(mid1:Int):=by omega
            have hm1:Hid (mid1=mid + 1):=by show _=_;omega
            go_wp2_with fail
            refine HX.out.mono ?_
            rintro e w5 ⟨rfl,hS1⟩
            have hS4:=hS.trans hS1
            clear hS1 HX hS
            by_cases hlr:ll < rl
            ·have hz1:(ll:Int) < (rl:Int):=by omega
             have HREC:=hI (ih (mid - a') (by omega) blk off cap a' mid N l1 d4 _ (Nat.le_refl _) hS4.holds hS4.lt1 HSK4.out (by omega) (by omega) hsz (by omega) HR.out.2.2.2.1)
             go_wp2_with fail
             refine HREC.out.mono ?_
             rintro e w6 ⟨rfl,d5,hp5,hs5,hS5⟩
             have HR5:=hI (HR.out.2.2.2.2.2.1 d5 hp5 hs5)
             have HSK5:Hid (d5.size=N):=hp5.1.trans HSK4.out
             have hS6:=hS4.trans hS5
             clear hp5 hs5 hS5 hS4 HREC
             go_wp2
             exact ⟨⟨mid1,b',l1,_,ap,d5,rfl,rfl,rfl,rfl,rfl,by omega,by omega,by omega,by omega,HSK5.out,by rw [hm1.out];exact HR5.out.1,hS6,fun R r1 r2=>by rw [hm1.out] at r1 r2;exact HT3.out R (HR5.out.2 R r1 r2).1 (HR5.out.2 R r1 r2).2⟩,by simp [intOf];omega⟩
            ·have hz1:¬ (ll:Int) < (rl:Int):=by omega
             have hz1d:decide (ll < rl)=false:=by simp;omega
             have HREC:=hI (ih (b' - mid1) (by omega) blk off cap mid1 b' N l1 d4 _ (Nat.le_refl _) hS4.holds hS4.lt1 HSK4.out (by omega) (by omega) hsz (by omega) (by rw [hm1.out];exact HR.out.2.2.2.2.1))
             go_wp2_with fail
             refine HREC.out.mono ?_
             rintro e w6 ⟨rfl,d5,hp5,hs5,hS5⟩
             rw [hm1.out] at hp5 hs5
             have HR5:=hI (HR.out.2.2.2.2.2.2 d5 hp5 hs5)
             have HSK5:Hid (d5.size=N):=hp5.1.trans HSK4.out
             have hS6:=hS4.trans hS5
             clear hp5 hs5 hS5 hS4 HREC
             go_wp2
             exact ⟨⟨a',mid,l1,_,ap,d5,rfl,rfl,rfl,rfl,rfl,by omega,by omega,by omega,by omega,HSK5.out,HR5.out.1,hS6,fun R r1 r2=>HT3.out R (HR5.out.2 R r1 r2).1 (HR5.out.2 R r1 r2).2⟩,by simp [intOf];omega⟩
           ·skip
            have HX:=hI (qyn blk off cap a' b' p N d3 _ hS.holds hS.lt1 HSK3.out (by omega) (by omega) (by omega) hsz)
            have h0a:0 < a':=by unfold peB at hT;simp at hT;exact hT.1
            have hnl:qae d3[a' - 1]! d3[p]! = false:=by unfold peB at hT;simp at hT;exact hT.2
            have HR:=hI (round_eq swoL (partitionEqual_holds qae) (d3:=d3) (a:=a') (b:=b') (pivot:=p) (mid:=(partitionEqual qae d3 a' b' p).1) (d4:=(partitionEqual qae d3 a' b' p).2) h0a (by omega) (by omega) (by omega) HBL3.out hnl rfl)
            clear hnl
            have HT3':=hI hT
            generalize partitionEqual qae d3 a' b' p=res at HX HR
            obtain ⟨mid,d4⟩:=res
            have m1:=HR.out.1
            have m2:=HR.out.2.1
            simp only at m1 m2 HX
            go_wp2_with fail
            refine HX.out.mono ?_
            rintro e w5 ⟨rfl,hS1⟩
            have hS4:=hS.trans hS1
            clear hS1 HX hS
            go_wp2
            exact ⟨⟨mid,b',l1,wb,wp,d4,rfl,rfl,rfl,rfl,rfl,by omega,by omega,by omega,by omega,HR.out.2.2.1.trans HSK3.out,HR.out.2.2.2.1,hS4,fun R r1 r2=>HT3.out R (HR.out.2.2.2.2 R r1 r2).1 (HR.out.2.2.2.2 R r1 r2).2⟩,by simp [intOf];omega⟩
end Go.Proofs.YtlkmagmdhopcjaaGreat
