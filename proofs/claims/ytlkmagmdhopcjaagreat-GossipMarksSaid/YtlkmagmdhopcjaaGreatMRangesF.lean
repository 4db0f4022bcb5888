/- Texts that the law leans on. -/
import Derived.RangeFuncNested
import Derived.RangeFuncBound
import Derived.RangeFuncCalls
import Derived.RangeFuncLeaves
import Derived.Shelf.Abstract
import Derived.Shelf.RegionOpen
import Derived.OwnWalkIn
import Derived.TacticsInMore
import Derived.LoopNIn
import Derived.LoopIn
import Derived.Maps.AppendAt
import Derived.Test.YtlkmagmdhopcjaaGreatMRangesE
import Derived.Test.YtlkmagmdhopcjaaGreatMRound
import Derived.Laws.StructEq
namespace Go.Proofs.YtlkmagmdhopcjaaGreat
open Go.RowKit Go.Sort Go.Lib Go.Shelf
attribute [local go_sem] Oper.semAt_some
abbrev NR:={ x:Int×Int // 1≤x.1∧x.1≤x.2∧x.2≤1000000 }
def isR (x:Int×Int):Bool:=decide (x.1≤x.2)
def encN (x:NR):Array Value:=#[.agg #[.int .i64 x.1.1,.int .i64 x.1.2]]
def Kg (g:Nat) (W W':World):Prop:=W.heap.size≤W'.heap.size∧W'.heap[g]?=W.heap[g]?
theorem Kg.refl (g:Nat) (W:World):Kg g W W:=⟨Nat.le_refl _,rfl⟩
theorem Kg.trans {g:Nat} {A B C:World} (h:Kg g A B) (k:Kg g B C):Kg g A C:=⟨Nat.le_trans h.1 k.1,k.2.trans h.2⟩
theorem Kg.alloc {g:Nat} {W W':World} (h:Kg g W W') (hg:g < W.heap.size) (o:Obj):Kg g W (W'.alloc o) :=
 ⟨by have:=h.1;simp;omega,(Below.heap_alloc W' o g (by have:=h.1;omega)).trans h.2⟩
theorem Kg.rd {α:Type} [Inhabited α] {enc:α→List Value} {k g off:Nat} {W W':World} {d:Array α} (h:Kg g W W') (hg:g < W.heap.size) (hr:RdK enc k W.heap.size W (some ⟨g,off,none⟩) d):RdK enc k W'.heap.size W' (some ⟨g,off,none⟩) d:=fun h0=>by
 obtain ⟨b,off',e,_,hc⟩:=hr h0
 injection e with e
 injection e with e1 e2
 subst e1 e2
 refine ⟨g,off,rfl,Nat.lt_of_lt_of_le hg h.1,fun t ht=>?_⟩
 have:=hc t ht
 unfold World.cell? at this ⊢
 simpa only [h.2] using this
set_option maxRecDepth 100000 in
set_option maxHeartbeats 2000000 in
theorem all2_in (F:Fence) (n:Nat) (hF:F.fn 264) (hro:F.round=none) (hn:1≤n) (l b g:Nat) (A:Option Addr) (c:Nat) (d:Array (Int×Int)) (hd:d.size≤1000000) (J Jx:List NR→World→Prop)
 (hY:∀ pre x W,J pre W→pre.length < d.size→YieldAt F (n - 1) Tryz.prog l (encN x) W fun e W' =>
   (e=.returned (.bool true)∧J (pre ++ [x]) W'∧Kg g W W')∨(e=.returned (.bool false)∧Jx (pre ++ [x]) W'))
 (W:World) (hJ:AbidesFrom W.heap.size J) (hg:g < W.heap.size) (hcell:W.cell? ⟨b,0,none⟩=some (.slice A d.size c)) (hR:∀ wr,Kg g W wr→RdK encR 2 wr.heap.size wr A d)
 (hok:∀ x ∈ d,isR x=true→1≤x.1∧x.1≤x.2∧x.2≤1000000) (h0:J [] W) :
 CallsIn F n Tryz.prog 264 #[.func (.yield l) #[] #[],.pointer (some ⟨b,0,none⟩)] W fun e W'=>(∃ v,e=.returned v) ∧
  ((∃ ys:List NR,ys.map (·.1)=d.toList.filter isR∧J ys W')∨(∃ pre,True∧Jx pre W')):=by
 have HY:=hI hY
 have HJ:=hI hJ
 have HOK:=hI hok
 have HR:=hI hR
 clear hY hJ hok hR
 refine callsIn_of_wp Tryz.func264 rfl hF ?_ hro
 simp only [Tryz.ntmps264,List.size_toArray,List.length_cons,List.length_nil,Nat.reduceAdd,Nat.reduceSub,Array.replicate_succ,Array.replicate_zero,List.push_toArray,List.append_toArray,List.nil_append,List.cons_append]
 gi_wp2
 gi_loopw [7] (fun i wr=>∃ (k:Nat) (pre:List NR),k≤d.size∧i=.int .i64 k∧pre.map (·.1)=(d.toList.take k).filter isR∧J pre wr∧Kg g W wr)
  (fun i _=>d.size - (intOf i).toNat)
 case atStart=>exact ⟨0,[],Nat.zero_le _,rfl,rfl,h0,Kg.refl _ _⟩
 case round =>
  obtain ⟨k,pre,hk,rfl,hpre,hJs,hnx⟩:=hrel
  have HP:=hI hpre
  clear hpre
  by_cases hlt:k < d.size
  ·obtain ⟨b',off,rfl,hb',f⟩:=(HR.out wr hnx).at_ hlt
   have f0:=f 0 (by omega)
   have f1:=f 1 (by omega)
   clear f
   have HX:Hid (isR d[k]! = true→1≤d[k]!.1∧d[k]!.1≤d[k]!.2∧d[k]!.2≤1000000):=HOK.out _ (by rw [getElem!_pos d k hlt];exact Array.getElem_mem hlt)
   have HT:Hid ((d.toList.take (k + 1)).filter isR=(d.toList.take k).filter isR ++ [d[k]!].filter isR):=by
    show _=_
    rw [List.take_succ_eq_append_getElem (by simpa using hlt),List.filter_append,getElem!_pos d k hlt];rfl
   have HL:Hid (pre.length≤k):=by
    show _≤_
    have e1:pre.length=((d.toList.take k).filter isR).length:=by rw [←HP.out];simp
    have e2:=List.length_filter_le isR (d.toList.take k)
    simp at e2
    omega
   generalize d[k]! = x at f0 f1 HX HT
   simp only [Nat.add_zero,encR,List.getElem!_cons_zero,List.getElem!_cons_succ] at f0 f1
   have kz:(k:Int) < (d.size:Int):=by omega
   have hJa:J pre (wr.alloc (.cells #[.int .i64 x.1,.int .i64 x.2] 124)):=HJ.out pre wr _ none hJs (World.grownBy_alloc wr _ none) (fun r e=>by cases e)
   have hnxa:Kg g W (wr.alloc (.cells #[.int .i64 x.1,.int .i64 x.2] 124)):=hnx.alloc hg _
   by_cases hx:x.1≤x.2
   ·have hxr:isR x=true:=by unfold isR;simp [hx]
    have hxo:=HX.out hxr
    obtain ⟨fn,tmps,assign,body,hy,hRd⟩:=HY.out pre ⟨x,hxo⟩ _ hJa (by have:=HL.out;omega)
    simp only [encN] at hy
    gi_wp2
    refine hRd.mono ?_
    rintro e W3 (⟨rfl,hJ3,hk3⟩ | ⟨rfl,hJx3⟩)
    ·gi_wp2
     go_roundw
     case rel=>exact ⟨k + 1,pre ++ [⟨x,hxo⟩],by omega,by go_num,by rw [HT.out,List.map_append,HP.out];simp [hxr],hJ3,hnxa.trans hk3⟩
     case measure=>simp [intOf];omega
    ·gi_wp2
     refine bodyPost_ret (results_none rfl _ _ _) rfl ?_
     exact ⟨⟨_,rfl⟩,.inr ⟨_,trivial,hJx3⟩⟩
   ·have hxr:isR x=false:=by unfold isR;simp;omega
    gi_wp2
    refine ⟨fun _ h=>(by cases h),?_⟩
    gi_wp2
    go_roundw
    case rel=>exact ⟨k + 1,pre,by omega,by go_num,by rw [HT.out,HP.out];simp [hxr],hJa,hnxa⟩
    case measure=>simp [intOf];omega
  ·obtain rfl:k=d.size:=by omega
   gi_wp2
   go_end0
   exact ⟨⟨_,rfl⟩,.inl ⟨_,by rw [HP.out,List.take_of_length_le (by simp)],hJs⟩⟩
end Go.Proofs.YtlkmagmdhopcjaaGreat
namespace Go.Proofs.YtlkmagmdhopcjaaGreat
open Go.RowKit Go.Sort Go.Lib Go.Shelf
attribute [local go_sem] Oper.semAt_some
def addF (out:Array (Int×Int)) (x:Int×Int):Array (Int×Int) :=
 if 0 < out.size∧x.1≤out[out.size - 1]!.2 + 1 then out.set! (out.size - 1) (out[out.size - 1]!.1,max out[out.size - 1]!.2 x.2) else out.push x
def qkf (l:List (Int×Int)):Array (Int×Int):=l.foldl addF #[]
def qgg (pre:List NR):Array (Int×Int):=qkf (pre.map (·.1))
theorem qxv (pre:List NR) (x:NR):qgg (pre ++ [x])=addF (qgg pre) x.1:=by unfold qgg qkf;simp
theorem addF_size (out:Array (Int×Int)) (x:Int×Int):(addF out x).size≤out.size + 1:=by unfold addF;split <;> simp
theorem qkg:∀ (l:List (Int×Int)) (out:Array (Int×Int)),(l.foldl addF out).size≤out.size + l.length
 | [],_=>by simp
 | x :: l,out=>by
   have:=qkg l (addF out x)
   have:=addF_size out x
   simp only [List.foldl_cons,List.length_cons]
   omega
theorem qxw (pre:List NR):(qgg pre).size≤pre.length:=by
 have:=qkg (pre.map (·.1)) #[]
 simpa [qgg,qkf] using this
theorem qmj (out:Array (Int×Int)) (i k:Nat) (v:Int×Int) (h:k≠i):(out.set! i v)[k]! = out[k]!:=by
 rw [Array.getElem!_eq_getD,Array.getElem!_eq_getD,Array.getD_eq_getD_getElem?,Array.getD_eq_getD_getElem?]
 congr 1
 simp only [Array.set!_eq_setIfInBounds]
 rw [Array.getElem?_setIfInBounds_ne (Ne.symm h)]
theorem addF_last {out:Array (Int×Int)} {x:Int×Int} (hx:1≤x.2∧x.2≤1000000) (h:∀ k,k < out.size→1≤out[k]!.2∧out[k]!.2≤1000000):∀ k,k < (addF out x).size→1≤(addF out x)[k]!.2∧(addF out x)[k]!.2≤1000000:=by
 intro k hk
 unfold addF at hk ⊢
 split at hk
 ·rename_i hc
  rw [if_pos hc]
  have hk':k < out.size:=by simpa using hk
  by_cases e:k=out.size - 1
  ·subst e
   have:(out.set! (out.size - 1) (out[out.size - 1]!.1,max out[out.size - 1]!.2 x.2))[out.size - 1]! = (out[out.size - 1]!.1,max out[out.size - 1]!.2 x.2):=by simp [hk']
   rw [this]
   have:=h _ hk'
   simp only
   omega
  ·have:=qmj out (out.size - 1) k (out[out.size - 1]!.1,max out[out.size - 1]!.2 x.2) e
   rw [this]
   exact h k hk'
 ·rename_i hc
  rw [if_neg hc]
  rcases Nat.lt_or_ge k out.size with hk' | hk'
  ·have:(out.push x)[k]! = out[k]!:=by rw [getElem!_pos _ k (by simp;omega),getElem!_pos out k hk',Array.getElem_push_lt]
   rw [this];exact h k hk'
  ·obtain rfl:k=out.size:=by simp at hk;omega
   have:(out.push x)[out.size]! = x:=by rw [getElem!_pos (out.push x) out.size (by simp)];simp
   rw [this];exact hx
theorem qof:∀ (l:List NR) (out:Array (Int×Int)),(∀ k,k < out.size→1≤out[k]!.2∧out[k]!.2≤1000000)→∀ k,k < ((l.map (·.1)).foldl addF out).size→1≤((l.map (·.1)).foldl addF out)[k]!.2∧((l.map (·.1)).foldl addF out)[k]!.2≤1000000
 | [],_,h=>h
 | x :: l,out,h=>qof l (addF out x.1) (addF_last ⟨by have:=x.2;omega,x.2.2.2⟩ h)
theorem qxx (pre:List NR):∀ k,k < (qgg pre).size→1≤(qgg pre)[k]!.2∧(qgg pre)[k]!.2≤1000000:=qof pre #[] (fun k hk=>absurd hk (by simp))
theorem qto (d:Array (Int×Int)) (k:Nat) (hk:k < d.size) (h:Int):(flatK encR 2 (d.set! k (d[k]!.1,h))).toList=(flatK encR 2 d).toList.set (k * 2 + 1) (.int .i64 h):=by
 apply List.ext_getElem?
 intro t
 rcases Nat.lt_or_ge t (d.size * 2) with h1 | h1
 ·have hs:(d.set! k (d[k]!.1,h)).size=d.size:=by simp
  rw [qhe _ _ _ _ (by rw [hs];exact h1),List.getElem?_set]
  by_cases e:k * 2 + 1=t
  ·rw [if_pos e,if_pos (by simp;omega)]
   have e1:t / 2=k:=by omega
   have e2:t % 2=1:=by omega
   have e3:(d.set! k (d[k]!.1,h))[k]! = (d[k]!.1,h):=by simp [hk]
   rw [e1,e2,e3];rfl
  ·rw [if_neg e,qhe _ _ _ _ h1]
   by_cases e4:t / 2=k
   ·have e2:t % 2=0:=by omega
    have e3:(d.set! k (d[k]!.1,h))[k]! = (d[k]!.1,h):=by simp [hk]
    rw [e4,e2,e3];rfl
   ·rw [qmj _ _ _ _ e4]
 ·rw [List.getElem?_eq_none (by simpa using h1),List.getElem?_eq_none (by simpa using h1)]
theorem qxy (b g:Nat) (A:Option Addr) (c:Nat) (d:Array (Int×Int)) (hd:d.size≤1000000) (w:World) (n:Nat) (hn:1≤n) (hb:b < w.heap.size) (hg:g < w.heap.size) (hcell:w.cell? ⟨b,0,none⟩=some (.slice A d.size c))
 (hr:RdK encR 2 w.heap.size w A d) (hA:0 < d.size→∃ off,A=some ⟨g,off,none⟩) (hok:∀ x ∈ d,isR x=true→1≤x.1∧x.1≤x.2∧x.2≤1000000) :
 SeqStopsK Fence.wide n Tryz.prog 264 #[.pointer (some ⟨b,0,none⟩)] encN (Kg g) (fun ys=>ys.map (·.1)=d.toList.filter isR) (fun _=>True) d.size w:=fun l J Jx W hW hJ _ hY h0=>by
 refine all2_in Fence.wide n trivial rfl hn l b g A c d hd J Jx hY W hJ (Nat.lt_of_lt_of_le hg hW.size) ((hW.cell (p:=⟨b,0,none⟩) hb).trans hcell) (fun wr hk=>?_) hok h0
 rcases Nat.eq_zero_or_pos d.size with h' | h'
 ·exact fun h=>absurd h (by omega)
 ·obtain ⟨off,rfl⟩:=hA h'
  exact hk.rd (Nat.lt_of_lt_of_le hg hW.size) ((hr.below hW).mono hW.size)
theorem Kg.putObj {g s:Nat} (hg:g < s) (W:World) (l:Nat) (o o':Obj) (hl:s≤l) (_:W.heap[l]?=some o) (_:o.isCells=false) (_:o.isWalk=false):Kg g W (W.putObj l o') :=
 ⟨by simp [World.putObj],World.putObj_heap_other (by omega)⟩
end Go.Proofs.YtlkmagmdhopcjaaGreat
namespace Go.Proofs.YtlkmagmdhopcjaaGreat
open Go.RowKit Go.Sort Go.Lib Go.Shelf
attribute [local go_sem] Oper.semAt_some
theorem qbs {w:World} {base base':Nat} {e:TypeId} {size:Nat} {v:Value} {n:Nat} {xs:List Value} (h:w.ownsRow base e size v n xs) (hb:base'≤base):w.ownsRow base' e size v n xs :=
 ⟨h.1,h.2.imp id fun ⟨g,cap,cur,q1,q2,q3⟩=>⟨g,cap,cur,q1,Nat.le_trans hb q2,q3⟩⟩
theorem kg_app {W w2:World} {g B:Nat} {v v':Value} {o:Obj} (hg:g < W.heap.size) (hgB:g≠B) (hne:v.ownBlock=some g→False) (hgrow:(W.alloc o).grownBy w2 v.ownBlock):Kg g W (w2.setCell ⟨B,0,none⟩ v'):=by
 have h1:=hgrow.size
 have h2:=hgrow.block g (by simp;omega) (fun e=>hne e.symm)
 have h3:=(grownBy_setCell' w2 B v').block g (by simp at h1;omega) (fun e=>hgB (by injection e))
 have h4:=(grownBy_setCell' w2 B v').size
 exact ⟨by simp at h1;omega,h3.trans (h2.trans (Below.heap_alloc W o g hg))⟩
theorem qrl {out:Array (Int×Int)} {x:Int×Int} (h:¬ (0 < out.size∧x.1≤out[out.size - 1]!.2 + 1)):addF out x=out.push x:=by unfold addF;rw [if_neg h]
theorem qmk {W W':World} {n:Nat} (h:KeepsOthers (W.drewN n) W'):KeepsOthers W W':=⟨h.1,h.2⟩
theorem qes (W:World) (p q:Value) (t:TypeId):∀ j u,[p,q][j]?=some u→(W.alloc (.cells #[p,q] t)).cell? ((⟨W.heap.size,0,none⟩:Addr).add j)=some u:=by
 intro j u hj
 rw [Addr.add_lit,Nat.zero_add,qbb]
 rw [←hj]
 simp
set_option maxRecDepth 100000 in
set_option maxHeartbeats 4000000 in
theorem qvl (A1:Option Addr) (c1:Nat) (d1:Array (Int×Int)) (A2:Option Addr) (c2:Nat) (d2:Array (Int×Int)) (w:World) (h1:RdK encR 2 w.heap.size w A1 d1) (h2:RdK encR 2 w.heap.size w A2 d2) (hd1:d1.size≤1000000) (hd2:d2.size≤1000000)
 (hok:∀ x ∈ d1,isR x=true→1≤x.1∧x.1≤x.2∧x.2≤1000000) :
 Calls Tryz.prog 157 #[.slice A1 d1.size c1,.slice A2 d2.size c2] w fun e w'=>∃ d' v out,e=.returned v∧SortR d1 d'∧out=(if (qkf (d'.toList.filter isR)).size≤1000 then qkf (d'.toList.filter isR) else d2)∧w'.ownsRow w.heap.size 124 2 v out.size (flatK encR 2 out).toList∧Below w.heap.size w w':=by
 obtain ⟨i0,hi0,hz0,hz1,hz2⟩:=info_parts qfh
 have hA:=all_any A1 c1 d1 (w.alloc (.cells #[.slice none 0 0] 64)) ((h1.alloc (Nat.le_refl _) _).mono (by simp)) hd1
 have HA:=hI hA
 have HOK:=hI hok
 have H2:=hI h2
 clear hA hok h1 h2
 refine (callsIn_wide (n:=3)).1 ?_
 refine callsIn_of_wp_marks Tryz.func157 rfl trivial ?_ rfl
 simp only [Tryz.ntmps157,List.size_toArray,List.length_cons,List.length_nil,Nat.reduceAdd,Nat.reduceSub,Array.replicate_succ,Array.replicate_zero,List.push_toArray,List.append_toArray,List.nil_append,List.cons_append]
 gi_wp2_with fail
 refine ⟨trivial,?_⟩
 gi_at_call 217
 refine (callsIn_wide.2 HA.out).mono ?_
 rintro e w1 ⟨d',A',c',b,rfl,hS,hb1,hb2,hcb,hr',hg',hB1⟩
 have hz:w.heap.size + 1≤w1.heap.size:=by have:=hB1.size;simpa using this
 have bO:Boxed w1 w.heap.size 64 (.slice none 0 0):=(hB1.block _ (by simp)).trans (Boxed.new w _ _)
 have hB:Below w.heap.size w w1:=(bel1 w _).trans (hB1.mono (by simp))
 obtain ⟨g,hg1,hg2,hgA⟩:∃ g,w.heap.size + 1≤g∧g < w1.heap.size∧(0 < d'.size→∃ off,A'=some ⟨g,off,none⟩):=by
  rcases Nat.eq_zero_or_pos d'.size with h' | h'
  ·exact ⟨b,by simpa using hb1,hb2,fun h=>absurd h (by omega)⟩
  ·obtain ⟨g,off,e,_⟩:=hr' h'
   have:=hg' g off e
   exact ⟨g,by simpa using this.1,this.2,fun _=>⟨off,e⟩⟩
 have hok':∀ x ∈ d',isR x=true→1≤x.1∧x.1≤x.2∧x.2≤1000000:=fun x hx=>HOK.out x ((hS.2.1 x).1 hx)
 have hd':d'.size≤1000000:=by have:=hS.1;omega
 have HS:=hI hS
 have H2b:=hI (H2.out.below hB)
 clear hS hB1 hg'
 gi_wp2
 refine wpIn_rangeFunc_ownH rfl (by omega) (gf:=264) (lb:=#[.pointer (some ⟨b,0,none⟩)]) rfl trivial (enters_of Tryz.func264 (by kernel_rfl) rfl)
  (qxy b g A' c' d' hd' w1 _ (by omega) hb2 hg2 hcb hr' hgA hok') Kg.trans (Kg.putObj hg2) (Below.refl _ _) (fun _=>rfl)
  (fun pre W=>(∃ v,Boxed W w.heap.size 64 v∧W.ownsRow w1.heap.size 124 2 v (qgg pre).size (flatK encR 2 (qgg pre)).toList∧True)∧(Below w.heap.size w W∧w1.heap.size≤W.heap.size))
  (fun _ _ _=>False)
  (OwnFrom.and (Own.from (holdsRow_own w1.heap.size w.heap.size 64 124 2 (fun pre=>(qgg pre).size) (fun pre=>(flatK encR 2 (qgg pre)).toList) (fun _ _=>True)) _) (OwnFrom.and (ownFrom_below (Nat.le_refl _) (by omega)) (fun _ _ _ _ hs hg _=>Nat.le_trans hs hg.size)))
  (fun _ _ _ _ _ hs _ _=>hs)
  ⟨⟨_,bO,qci _ _ _ _ _,trivial⟩,hB,Nat.le_refl _⟩
  (fun x a' W=>∃ Bx,W.cell? ⟨Bx,0,none⟩=some (.int .i64 x.1.1)∧W.cell? ⟨Bx,1,none⟩=some (.int .i64 x.1.2)∧a'={ tmps:=#[.slice A1 d1.size c1,.slice A2 d2.size c2,undef,undef,.slice none 0 0,.pointer (some ⟨w.heap.size,0,none⟩),.pointer (some ⟨Bx,0,none⟩),undef,.slice A1 d1.size c1,.func (.func 264) #[] #[.pointer (some ⟨b,0,none⟩)],.agg #[.int .i64 x.1.1,.int .i64 x.1.2],undef,undef,undef,undef,undef,undef,undef,undef,undef,undef,undef,undef,undef,undef,undef,undef,undef,undef,undef,undef,undef,undef,undef,undef,undef,undef,undef,undef,undef,undef,undef,undef,undef,undef,undef,undef,undef,undef],defers:=[] })
  (fun x a' _ X Y row hs hg hr=>by obtain ⟨Bx,q1,q2,q3⟩:=hs;exact ⟨Bx,cell_kept q1 hg (fun r e=>(hr r e).2),cell_kept q2 hg (fun r e=>(hr r e).2),q3⟩)
  ?assign ?body ?done ?stop
 case assign =>
  rintro l pre x W K ⟨⟨v,bV,row,_⟩,hBW,hsW⟩ hK
  simp only [encN]
  gi_wp2
  exact hK _ _ ((KeepsOthers.alloc _ _).from _) ((Kg.refl g W).alloc (by omega) _) ⟨⟨v,bV.alloc _,row.alloc _,trivial⟩,hBW.alloc (by omega) _,by simp;omega⟩ ⟨W.heap.size,qbb W #[.int .i64 x.1.1,.int .i64 x.1.2] _ 0,qbb W #[.int .i64 x.1.1,.int .i64 x.1.2] _ 1,rfl⟩
 case body =>
  rintro l pre x a' W hl _ ⟨⟨v,bV,row,_⟩,hBW,hsW⟩ ⟨Bx,q1,q2,rfl⟩ hlt
  have hsz:=qxw pre
  have HL:=hI (qxx pre)
  have HN:=hI (qxv pre x)
  generalize qgg pre=out at hsz HL HN row
  have hx:=x.2
  have cV:=bV.cell
  have fV:=bV.frozen
  rcases Nat.eq_zero_or_pos out.size with h0 | h0
  ·obtain rfl:out=#[]:=Array.eq_empty_of_size_eq_zero h0
   obtain ⟨A,c,rfl,_,_⟩:=qaw row
   simp only [List.size_toArray,List.length_nil] at cV
   gi_wp2_with fail
   refine qeu (by rintro ⟨_,_,h⟩;exact h.elim) (by kernel_rfl) (by kernel_rfl) (by kernel_rfl) ?_
   repeat (go_big_quiet_step (fail))
   refine wpQuiet_nil ?_
   intro _ hw'
   obtain ⟨nq,rfl⟩:=hw'
   have row':(W.drewN nq).ownsRow w1.heap.size 124 2 (.slice A 0 c) 0 []:=by have:=row;rw [qgf] at this;exact this
   have bV':Boxed (W.drewN nq) w.heap.size 64 (.slice A 0 c):=bV
   gi_wp2_with (gi_at_builtin;refine wpListIn_append_own _ rfl _ _ 64 rfl w1.heap.size 124 i0 (.agg #[.int .i64 0,.int .i64 0]) 2 16 Tryz.underlying64 hi0 hz0 hz1 hz2 rfl (by decide) _ _ _ rfl (row'.alloc _) ⟨W.heap.size,0,none⟩ 1 1 [.int .i64 x.1.1,.int .i64 x.1.2] rfl rfl (qes (W.drewN nq) _ _ _) (by simp [Value.oneCell']) (by unfold maxLen;omega) (by omega) (by simp;omega) ?_;intro v' w2 hown' hgrow _;obtain ⟨g',cap',rfl⟩:=ownsRow_succ hown';obtain ⟨hv1,hv2,hr2,hk2,hb2⟩:=bV'.appended (by decide) (qbs row' (show w.heap.size≤w1.heap.size by omega)) hBW.size (Nat.le_refl _) (qbs hown' (show w.heap.size≤w1.heap.size by omega)) hgrow;have hc1:=hv1.cell;have hf1:=hv1.frozen)
   have hr3:=hown'.kept (grownBy_setCell' w2 w.heap.size (.slice (some ⟨g',0,none⟩) (0 + 1) cap')) (.inr (hv1.not_row (by decide) hown').symm)
   have hkg:=kg_app (B:=w.heap.size) (v:=.slice A 0 c) (v':=.slice (some ⟨g',0,none⟩) (0 + 1) cap') (show g < (W.drewN nq).heap.size from Nat.lt_of_lt_of_le hg2 hsW) (by omega) (fun e=>by have:=(row'.lt _ e).1;omega) hgrow
   refine ⟨(qmk hk2).from _,hkg,⟨⟨_,hv2,?_,trivial⟩,(qbc hBW nq).trans hb2,?_⟩⟩
   ·rw [HN.out,qrl (by simp),Array.size_push,qbm qdl,qgf]
    simpa [encR] using hr3
   ·have:=hkg.1
    exact Nat.le_trans hsW this
  ·obtain ⟨g0,cap,rfl,hgb,hgl,hH⟩:=qbo row (by
    rintro rfl
    obtain ⟨_,⟨_,h'⟩ | ⟨_,_,_,e,_⟩⟩:=row
    ·omega
    ·cases e)
   have hlo:=HL.out (out.size - 1) (by omega)
   have hc5:=(hH ((out.size - 1) * 2 + 1) (by rw [size_flatK];omega)).1
   rw [Nat.zero_add,qhi _ _ _ _ _ (by omega) (by decide)] at hc5
   have HP:Hid (¬ (x.1.1≤out[out.size - 1]!.2 + 1)→addF out x.1=out.push x.1):=fun h=>qrl (fun h'=>h h'.2)
   have HJ:Hid (x.1.1≤out[out.size - 1]!.2 + 1→addF out x.1=out.set! (out.size - 1) (out[out.size - 1]!.1,max out[out.size - 1]!.2 x.1.2)):=fun h=>by unfold addF;rw [if_pos ⟨h0,h⟩]
   have HF:∀ h,Hid ((flatK encR 2 (out.set! (out.size - 1) (out[out.size - 1]!.1,h))).toList=(flatK encR 2 out).toList.set ((out.size - 1) * 2 + 1) (.int .i64 h)):=fun h=>qto out (out.size - 1) (by omega) h
   have hf5:=row.frozenAt ((out.size - 1) * 2 + 1)
   clear hH
   generalize out[out.size - 1]! = y at hlo hc5 HP HJ HF
   simp only [encR,List.getElem!_cons_zero,List.getElem!_cons_succ] at hc5
   have p0:(0:Int)≤(out.size:Int) - 1:=by omega
   have p1:(out.size:Int) - 1 < (out.size:Int):=by omega
   have p2:(1:Int)≤(out.size:Int):=by omega
   have hix:((out.size:Int) - 1).toNat=out.size - 1:=by omega
   have hwp:IntKind.i64.wrap ((out.size:Int) - 1)=(out.size:Int) - 1:=by rw [IntKind.wrap_i64];omega
   have hwy:IntKind.i64.wrap (y.2 + 1)=y.2 + 1:=by rw [IntKind.wrap_i64];omega
   by_cases hj:x.1.1≤y.2 + 1
   ·gi_wp2_with fail
    refine qeu (by rintro ⟨_,_,h⟩;exact h.elim) (by kernel_rfl) (by kernel_rfl) (by kernel_rfl) ?_
    repeat (go_big_quiet_step (fail))
    refine wpQuiet_nil ?_
    intro _ hw'
    obtain ⟨nq,rfl⟩:=hw'
    gi_wp2_with fail
    refine qmu 12 (by rintro ⟨_,_,h⟩;exact h.elim) (by kernel_rfl) (by kernel_rfl) (by kernel_rfl) ?_
    simp only [List.take_succ_cons,List.take_zero,List.drop_succ_cons,List.drop_zero]
    repeat still_step
    try refine wpStill_nil ?_
    go_wp2
    obtain ⟨hs1,hs2⟩:=World.ownsRow.stored (w:=(W.drewN nq).drew) (by exact row) ((out.size - 1) * 2 + 1) (.int .i64 (max y.2 x.1.2))
    have hk:=KeepsOthers.setCell (W.drewN nq).drew ⟨g0,(out.size - 1) * 2 + 1,none⟩ (.int .i64 (max y.2 x.1.2))
    have hk':KeepsOthers W _:=⟨hk.1,hk.2⟩
    refine ⟨hk'.from _,⟨hs2.size,hs2.block g (show g < W.heap.size by omega) (fun e=>by injection e;omega)⟩,⟨⟨_,Boxed.kept (W:=(W.drewN nq).drew) bV hs2 (fun e=>by injection e;omega),?_,trivial⟩,(qbc hBW nq).drew.setCell (p:=⟨g0,_,none⟩) (show w.heap.size≤g0 by omega) _,Nat.le_trans hsW hs2.size⟩⟩
    rw [HN.out,HJ.out hj,(HF _).out]
    simpa using hs1
   ·have hjb:decide (x.1.1≤y.2 + 1)=false:=by simp;omega
    gi_wp2_with fail
    refine qeu (by rintro ⟨_,_,h⟩;exact h.elim) (by kernel_rfl) (by kernel_rfl) (by kernel_rfl) ?_
    repeat (go_big_quiet_step (fail))
    refine wpQuiet_nil ?_
    intro _ hw'
    obtain ⟨nq,rfl⟩:=hw'
    have row':(W.drewN nq).ownsRow w1.heap.size 124 2 (.slice (some ⟨g0,0,none⟩) out.size cap) out.size (flatK encR 2 out).toList:=row
    have bV':Boxed (W.drewN nq) w.heap.size 64 (.slice (some ⟨g0,0,none⟩) out.size cap):=bV
    gi_wp2_with (gi_at_builtin;refine wpListIn_append_own _ rfl _ _ 64 rfl w1.heap.size 124 i0 (.agg #[.int .i64 0,.int .i64 0]) 2 16 Tryz.underlying64 hi0 hz0 hz1 hz2 rfl (by decide) _ _ _ rfl (row'.alloc _) ⟨W.heap.size,0,none⟩ 1 1 [.int .i64 x.1.1,.int .i64 x.1.2] rfl rfl (qes (W.drewN nq) _ _ _) (by simp [Value.oneCell']) (by unfold maxLen;omega) (by omega) (by simp;omega) ?_;intro v' w2 hown' hgrow _;obtain ⟨g',cap',rfl⟩:=ownsRow_succ hown';obtain ⟨hv1,hv2,hr2,hk2,hb2⟩:=bV'.appended (by decide) (qbs row' (show w.heap.size≤w1.heap.size by omega)) hBW.size (Nat.le_refl _) (qbs hown' (show w.heap.size≤w1.heap.size by omega)) hgrow;have hc1:=hv1.cell;have hf1:=hv1.frozen)
    have hr3:=hown'.kept (grownBy_setCell' w2 w.heap.size (.slice (some ⟨g',0,none⟩) (out.size + 1) cap')) (.inr (hv1.not_row (by decide) hown').symm)
    have hkg:=kg_app (B:=w.heap.size) (v:=.slice (some ⟨g0,0,none⟩) out.size cap) (v':=.slice (some ⟨g',0,none⟩) (out.size + 1) cap') (show g < (W.drewN nq).heap.size from Nat.lt_of_lt_of_le hg2 hsW) (by omega) (fun e=>by have:=(row'.lt _ e).1;omega) hgrow
    refine ⟨(qmk hk2).from _,hkg,⟨⟨_,hv2,?_,trivial⟩,(qbc hBW nq).trans hb2,?_⟩⟩
    ·rw [HN.out,HP.out hj,Array.size_push,qbm qdl]
     exact hr3
    ·have:=hkg.1
     exact Nat.le_trans hsW this
 case done =>
  rintro D ys W hD hys ⟨⟨v,bV,row,_⟩,hBW,hsW⟩ hK
  have HY:Hid (qgg ys=qkf (d'.toList.filter isR)):=by show _=_;unfold qgg;rw [hys]
  obtain ⟨A,c,rfl,_,_⟩:=qaw row
  have cV:=bV.cell
  by_cases h1000:(qgg ys).size≤1000
  ·have ht:decide ((1000:Int) < ((qgg ys).size:Int))=false:=by simp;omega
   generalize hgen:qgg ys=out at *
   gi_wp2
   refine ⟨by simp,.inl ⟨_,_,rfl,run_takeDeferred hK,?_⟩⟩
   exact ⟨_,results_tmp rfl _ _ _,d',_,out,rfl,HS.out,by rw [←HY.out,if_pos h1000],ownsRow_putObj (qbs row (show w.heap.size≤w1.heap.size by omega)) _ hK rfl,hBW.trans (belowK_b (w:=w) (Nat.le_refl _) W D _ _ (by omega) hK rfl rfl)⟩
  ·have ht:(1000:Int) < ((qgg ys).size:Int):=by omega
   generalize hgen:qgg ys=out at *
   have hC:=qvk A2 c2 d2 W ((H2.out.below hBW).mono hBW.size) hd2
   have HC:=hI hC
   clear hC
   gi_wp2_with fail
   refine ⟨trivial,?_⟩
   gi_at_call 155
   refine (callsIn_wide.2 HC.out).mono ?_
   rintro e w3 ⟨v3,rfl,hown3,hb3⟩
   have hlD:D < W.heap.size:=(Array.getElem?_eq_some_iff.1 hK).1
   have hK3:w3.heap[D]?=some (.deferred (some [])):=(hb3.block D hlD).trans hK
   gi_wp2
   refine ⟨by simp,.inl ⟨_,_,rfl,run_takeDeferred hK3,?_⟩⟩
   exact ⟨_,results_tmp rfl _ _ _,d',v3,d2,rfl,HS.out,by rw [←HY.out,if_neg h1000],ownsRow_putObj (qbs hown3 hBW.size) _ hK3 rfl,(qaa hBW hb3).trans (belowK_b (w:=w) (Nat.le_refl _) w3 D _ _ (by omega) hK3 rfl rfl)⟩
 case stop =>
  rintro D c pre W _ _ h _
  exact h.elim
end Go.Proofs.YtlkmagmdhopcjaaGreat
namespace Go.Proofs.YtlkmagmdhopcjaaGreat
open Go.RowKit Go.Sort Go.Lib
def qej (x:Int×Int):Int×Int:=(max x.1 1,min x.2 1000000)
theorem qvm (x:Int×Int) (w:World) :
 Calls Tryz.prog 156 #[.agg #[.int .i64 x.1,.int .i64 x.2]] w fun e w'=>e=.returned (.agg #[.int .i64 (qej x).1,.int .i64 (qej x).2])∧Below w.heap.size w w':=by
 unfold qej
 go_enter Tryz.func156,Tryz.ntmps156
 go_wp2
 have hS:Tryz.prog.underlying 124 = some (.struct (Tryz.prog.fieldsOf 124)):=by kernel_rfl
 refine bodyPost_ret (results_cell_row rfl _ _ (w.heap.size + 1) 124 _ (0,0) _ rfl (heap_alloc2_new w _ _) hS rfl (by kernel_rfl)) rfl ?_
 exact ⟨rfl,qab (bel1 _ _) _⟩
end Go.Proofs.YtlkmagmdhopcjaaGreat
namespace Go.Proofs.YtlkmagmdhopcjaaGreat
open Go.RowKit Go.Sort Go.Lib
def qib (d1 d2:Array (Int×Int)):Nat→Array (Int×Int)
 | 0=>d1
 | k + 1=>(qib d1 d2 k).push (qej d2[k]!)
theorem qhu (d1 d2:Array (Int×Int)):∀ k,(qib d1 d2 k).size=d1.size + k
 | 0=>rfl
 | k + 1=>by simp [qib,qhu d1 d2 k];omega
def Formed (m was out:Array (Int×Int)):Prop:=∃ d',SortR m d'∧out=(if (qkf (d'.toList.filter isR)).size≤1000 then qkf (d'.toList.filter isR) else was)
theorem qpr {d1 d2:Array (Int×Int)} (h:qam d1=0):∀ k,∀ x ∈ qib d1 d2 k,isR x=true→1≤x.1∧x.1≤x.2∧x.2≤1000000
 | 0,x,hx,_=>by
   obtain ⟨i,hi,rfl⟩:=Array.mem_iff_getElem.1 (show x ∈ d1 from hx)
   have:=ok_at h hi
   rw [getElem!_pos d1 i hi] at this
   omega
 | k + 1,x,hx,hr=>by
   rcases Array.mem_push.1 hx with h' | rfl
   ·exact qpr h k x h' hr
   ·unfold isR qej at hr
    simp only [decide_eq_true_eq] at hr
    unfold qej
    simp only
    omega
theorem qjn {w w':World} {base:Nat} {e:TypeId} {size:Nat} {v:Value} {n:Nat} {xs:List Value} (h:w.ownsRow base e size v n xs) (hb:Below w.heap.size w w'):w'.ownsRow base e size v n xs :=
 ⟨h.1,h.2.imp id fun ⟨g,cap,cur,q1,q2,q3,q4⟩=>⟨g,cap,cur,q1,q2,(hb.block g (Array.getElem?_eq_some_iff.1 q3).1).trans q3,q4⟩⟩
theorem own_app {w wr w1:World} {o:Obj} {e:TypeId} {s n:Nat} {v:Value} {xs:List Value} (hb:Below w.heap.size w wr) (hown:wr.ownsRow w.heap.size e s v n xs) (hg:(wr.alloc o).grownBy w1 v.ownBlock):Below w.heap.size w w1 :=
 (qab hb o).grown hg (qab hb o).size (fun k hk=>(hown.lt k hk).1)
set_option maxRecDepth 100000 in
set_option maxHeartbeats 4000000 in
theorem gAdd_any (A1:Option Addr) (c1:Nat) (d1:Array (Int×Int)) (A2:Option Addr) (c2:Nat) (d2:Array (Int×Int)) (w:World) (h1:RdK encR 2 w.heap.size w A1 d1) (h2:RdK encR 2 w.heap.size w A2 d2) (hd2:d2.size≤100000) :
 Calls Tryz.prog 75 #[.slice A1 d1.size c1,.slice A2 d2.size c2] w fun e w'=>∃ v out,e=.returned v∧(qam d1=0→Formed (qib d1 d2 d2.size) d1 out)∧(qam d1≠0→out=#[])∧w'.ownsRow w.heap.size 124 2 v out.size (flatK encR 2 out).toList∧Below w.heap.size w w':=by
 by_cases hs:qam d1=0
 ·have hq:(qam d1 == 0)=true:=by simp [hs]
  have hd1:=(qdm hs).1
  have HO:=hI (fun k=>qpr (d2:=d2) hs k)
  have HS:=hI hs
  obtain ⟨i0,hi0,hz0,hz1,hz2⟩:=info_parts qfh
  clear hs
  go_enter Tryz.func75,Tryz.ntmps75
  go_wp2_with fail
  refine (qfv _ _ d1 _ h1).mono ?_
  rintro e w1 ⟨rfl,hb1⟩
  have HC:=hI (qvk A1 c1 d1 w1 ((h1.below hb1).mono hb1.size) (by omega))
  go_wp2_with fail
  refine HC.out.mono ?_
  rintro e w2 ⟨v0,rfl,hown0,hb2⟩
  have hB2:Below w.heap.size w w2:=qaa hb1 hb2
  have hown0':=qbs hown0 hb1.size
  clear hown0 HC
  obtain ⟨A0,c0,rfl,_,_⟩:=qaw hown0'
  go_wp2
  go_loopw [5,15] (fun m i wr=>∃ k:Nat,k≤d2.size∧i=.int .i64 k∧wr.ownsRow w.heap.size 124 2 m (qib d1 d2 k).size (flatK encR 2 (qib d1 d2 k)).toList∧Below w.heap.size w wr) (fun _ i _=>d2.size - (intOf i).toNat)
  case atStart=>exact ⟨0,Nat.zero_le _,rfl,hown0',hB2⟩
  case round =>
   obtain ⟨k,hk,rfl,hown,hb⟩:=hrel
   have ms:(qib d1 d2 k).size≤d1.size + k:=Nat.le_of_eq (qhu d1 d2 k)
   by_cases hlt:k < d2.size
   ·obtain ⟨b,off,rfl,_,f⟩:=(h2.below hb).at_ hlt
    have f0:=f 0 (by omega)
    have f1:=f 1 (by omega)
    have HL:Hid (qib d1 d2 (k + 1)=(qib d1 d2 k).push (qej d2[k]!)):=rfl
    generalize d2[k]! = x at f0 f1 HL
    simp only [Nat.add_zero,encR,List.getElem!_cons_zero,List.getElem!_cons_succ] at f0 f1
    clear f
    generalize qib d1 d2 k=m at hown HL ms
    obtain ⟨Am,cm,rfl,_,_⟩:=qaw hown
    have kz:(k:Int) < (d2.size:Int):=by omega
    go_wp2_with fail
    refine (qvm x _).mono ?_
    rintro e w3 ⟨rfl,hb3⟩
    have hb4:Below w.heap.size w w3:=qaa (qab hb _) hb3
    have hown3:=qjn (hown.alloc _) hb3
    have hz3:=hb4.size
    go_wp2_with (at_builtin;refine wpList_append_own _ rfl _ _ 64 rfl w.heap.size 124 i0 (.agg #[.int .i64 0,.int .i64 0]) 2 16 Tryz.underlying64 hi0 hz0 hz1 hz2 rfl (by decide) _ _ _ rfl (hown3.alloc _) ⟨w3.heap.size,0,none⟩ 1 1 [.int .i64 (qej x).1,.int .i64 (qej x).2] rfl rfl (qes w3 _ _ _) (by simp [Value.oneCell']) (by unfold maxLen;omega) (by omega) (by simp;omega) ?_;intro v' w4 hown' hgrow _)
    exact ⟨⟨k + 1,by omega,by go_num,(by rw [HL.out,Array.size_push,qbm qdl];exact hown'),own_app hb4 hown3 hgrow⟩,by simp [intOf];omega⟩
   ·obtain rfl:k=d2.size:=by omega
    have HR:=hI (HO.out d2.size)
    generalize hm:qib d1 d2 d2.size=m at hown HR ms
    have HE:=hI hm
    clear hm
    obtain ⟨Am,cm,rfl,hrm,_⟩:=qaw hown
    have HF:=hI (qvl Am cm m A1 c1 d1 wr hrm ((h1.below hb).mono hb.size) (by omega) (by omega) HR.out)
    go_wp2_with fail
    refine HF.out.mono ?_
    rintro e w5 ⟨d',v,out,rfl,hS,ho,hown5,hb5⟩
    have HX:Hid (Formed m d1 out):=⟨d',hS,ho⟩
    clear hS ho
    go_wp2
    go_ret
    exact ⟨_,out,rfl,fun _=>by rw [HE.out];exact HX.out,fun h=>absurd HS.out h,qbs hown5 hb.size,qaa hb hb5⟩
 ·have hq:(qam d1 == 0)=false:=by simpa using hs
  have HS:=hI hs
  clear hs
  go_enter Tryz.func75,Tryz.ntmps75
  go_wp2_with fail
  refine (qfv _ _ d1 _ h1).mono ?_
  rintro e w1 ⟨rfl,hb1⟩
  go_wp2
  go_ret
  exact ⟨_,#[],rfl,fun h=>absurd h HS.out,fun _=>rfl,qci _ _ _ _ _,hb1⟩
end Go.Proofs.YtlkmagmdhopcjaaGreat
namespace Go.Proofs.YtlkmagmdhopcjaaGreat
open Go.RowKit Go.Sort Go.Lib
def qhg (d:Array (Int×Int)) (r:Int×Int):Nat→Array (Int×Int)
 | 0=>#[]
 | k + 1=>((qhg d r k).push (d[k]!.1,min d[k]!.2 (r.1 - 1))).push (max d[k]!.1 (r.2 + 1),d[k]!.2)
theorem qog (d:Array (Int×Int)) (r:Int×Int):∀ k,(qhg d r k).size=2 * k
 | 0=>rfl
 | k + 1=>by simp [qhg,qog d r k];omega
theorem qps {d:Array (Int×Int)} {r:Int×Int} (h:qam d=0) (hr:1≤r.2):∀ k,k≤d.size→∀ x ∈ qhg d r k,isR x=true→1≤x.1∧x.1≤x.2∧x.2≤1000000
 | 0,_,x,hx,_=>by simp [qhg] at hx
 | k + 1,hk,x,hx,hrx=>by
   have o:=ok_at h (k:=k) (by omega)
   rcases Array.mem_push.1 hx with h' | rfl
   ·rcases Array.mem_push.1 h' with h' | rfl
    ·exact qps h hr k (by omega) x h' hrx
    ·unfold isR at hrx
     simp only [decide_eq_true_eq] at hrx ⊢
     omega
   ·unfold isR at hrx
    simp only [decide_eq_true_eq] at hrx ⊢
    omega
def qhh (d:Array (Int×Int)) (r:Int×Int) (out:Array (Int×Int)):Prop :=
 if (qej r).2 < (qej r).1 then out=d else Formed (qhg d (qej r) d.size) d out
def NL (l:List (Int×Int)):Prop:=(∀ x ∈ l,1≤x.1∧x.1≤x.2∧x.2≤1000000)∧l.Pairwise (fun x y=>x.2 + 1 < y.1)
theorem qek {n:Int} {x:Int×Int}:qde n x=true↔x.1≤n∧n≤x.2:=by unfold qde;simp
theorem qtp {l:List (Int×Int)} {n:Int}:l.any (qde n)=true↔∃ x ∈ l,x.1≤n∧n≤x.2:=by simp [List.any_eq_true,qek]
theorem qkh {d:Array (Int×Int)} {n:Int}:inR d n=true↔∃ x ∈ d.toList,x.1≤n∧n≤x.2:=qtp
theorem NL.tail {x:Int×Int} {l:List (Int×Int)} (h:NL (x :: l)):NL l:=⟨fun y hy=>h.1 y (by simp [hy]),(List.pairwise_cons.1 h.2).2⟩
theorem NL.gt {x:Int×Int} {l:List (Int×Int)} (h:NL (x :: l)) {n:Int} (hn:l.any (qde n)=true):x.2 + 1 < n:=by
 obtain ⟨y,hy,h1,_⟩:=qtp.1 hn
 have:=(List.pairwise_cons.1 h.2).1 y hy
 omega
theorem any_cons {x:Int×Int} {l:List (Int×Int)} {n:Int}:(x :: l).any (qde n)=true↔(x.1≤n∧n≤x.2)∨l.any (qde n)=true:=by
 rw [List.any_cons,Bool.or_eq_true,qek]
theorem NL.first {x y:Int×Int} {l m:List (Int×Int)} (h:NL (x :: l)) (k:NL (y :: m)) (e:∀ n,(x :: l).any (qde n)=true→(y :: m).any (qde n)=true):y.1≤x.1∧(x.1=y.1→x.2≤y.2):=by
 have hx:=h.1 x (by simp)
 have hy:=k.1 y (by simp)
 constructor
 ·rcases any_cons.1 (e x.1 (any_cons.2 (Or.inl ⟨by omega,by omega⟩))) with h1 | h1
  ·omega
  ·have:=k.gt h1;omega
 ·intro e1
  rcases Int.lt_or_le y.2 x.2 with hl | hl
  ·rcases any_cons.1 (e (y.2 + 1) (any_cons.2 (Or.inl ⟨by omega,by omega⟩))) with h1 | h1
   ·omega
   ·have:=k.gt h1;omega
  ·exact hl
theorem NL.uniq:∀ {l m:List (Int×Int)},NL l→NL m→(∀ n,l.any (qde n)=m.any (qde n))→l=m
 | [],[],_,_,_=>rfl
 | [],y :: m,_,k,e=>by
   have hy:=k.1 y (by simp)
   have:=e y.1
   rw [any_cons.2 (Or.inl ⟨by omega,by omega⟩)] at this
   simp at this
 | x :: l,[],h,_,e=>by
   have hx:=h.1 x (by simp)
   have:=e x.1
   rw [any_cons.2 (Or.inl ⟨by omega,by omega⟩)] at this
   simp at this
 | x :: l,y :: m,h,k,e=>by
   have a:=h.first k (fun n hn=>by rw [←e n];exact hn)
   have b:=k.first h (fun n hn=>by rw [e n];exact hn)
   have e1:x.1=y.1:=by omega
   have e2:x.2=y.2:=by have:=a.2 e1;have:=b.2 e1.symm;omega
   have e3:x=y:=Prod.ext e1 e2
   subst e3
   rw [NL.uniq h.tail k.tail fun n=>?_]
   rw [Bool.eq_iff_iff]
   have e':=e n
   constructor
   ·intro hn
    have g:=h.gt hn
    rcases any_cons.1 (e' ▸ any_cons.2 (Or.inr hn)) with h1 | h1
    ·omega
    ·exact h1
   ·intro hn
    have g:=k.gt hn
    rcases any_cons.1 (e'.symm ▸ any_cons.2 (Or.inr hn)) with h1 | h1
    ·omega
    ·exact h1
theorem NL.chain {d:Array (Int×Int)} (h:∀ k,k < d.size→qki d k=false):NL d.toList:=by
 have hk:∀ k,k < d.size→1≤d[k]!.1∧d[k]!.1≤d[k]!.2∧d[k]!.2≤1000000∧(0 < k→d[k - 1]!.2 + 1 < d[k]!.1):=by
  intro k hk
  have:=h k hk
  unfold qki at this
  rw [decide_eq_false_iff_not] at this
  refine ⟨by omega,by omega,by omega,fun h0=>by omega⟩
 refine ⟨fun x hx=>?_,?_⟩
 ·obtain ⟨i,hi,rfl⟩:=List.mem_iff_getElem.1 hx
  have:=hk i (by simpa using hi)
  rw [getElem!_pos d i (by simpa using hi)] at this
  simpa using ⟨this.1,this.2.1,this.2.2.1⟩
 ·rw [List.pairwise_iff_getElem]
  have main:∀ m i,i + m + 1 < d.size→d[i]!.2 + 1 < d[i + m + 1]!.1:=by
   intro m
   induction m with
   | zero=>intro i hi;have:=(hk (i + 1) (by omega)).2.2.2 (by omega);simpa using this
   | succ m ih =>
     intro i hi
     have a:=ih i (by omega)
     have b:=hk (i + m + 1) (by omega)
     have c:=(hk (i + (m + 1) + 1) (by omega)).2.2.2 (by omega)
     have e:i + (m + 1) + 1 - 1=i + m + 1:=by omega
     rw [e] at c
     omega
  intro i j hi hj hij
  have hi':i < d.size:=by simpa using hi
  have hj':j < d.size:=by simpa using hj
  obtain ⟨m,rfl⟩:∃ m,j=i + m + 1:=⟨j - i - 1,by omega⟩
  have:=main m i hj'
  rw [getElem!_pos d i hi',getElem!_pos d _ hj'] at this
  simpa using this
theorem NL.of_set {d:Array (Int×Int)} (h:qam d=0):NL d.toList:=NL.chain (qdm h).2
theorem NL.bad {d:Array (Int×Int)} (h:NL d.toList) (k:Nat) (hk:k < d.size):qki d k=false:=by
 unfold qki
 rw [decide_eq_false_iff_not]
 have a:=h.1 d[k]! (by rw [getElem!_pos d k hk];simp)
 have b:0 < k→d[k - 1]!.2 + 1 < d[k]!.1:=fun h0=>by
  have:=List.pairwise_iff_getElem.1 h.2 (k - 1) k (by simp;omega) (by simpa using hk) (by omega)
  rw [getElem!_pos d k hk,getElem!_pos d (k - 1) (by omega)]
  simpa using this
 omega
theorem NL.set {d:Array (Int×Int)} (h:NL d.toList) (hs:d.size≤1000):qam d=0:=setE_ok hs h.bad
def IsN (p:Int→Bool) (s:Array (Int×Int)):Prop:=NL s.toList∧∀ n,inR s n=p n
theorem IsN.uniq {p:Int→Bool} {s t:Array (Int×Int)} (h:IsN p s) (k:IsN p t):s=t :=
 Array.toList_inj.1 (NL.uniq h.1 k.1 fun n=>(h.2 n).trans (k.2 n).symm)
def Fit (p:Int→Bool) (was out:Array (Int×Int)):Prop:=∃ s,IsN p s∧out=if s.size≤1000 then s else was
theorem Fit.uniq {p:Int→Bool} {was s t:Array (Int×Int)} (h:Fit p was s) (k:Fit p was t):s=t:=by
 obtain ⟨a,ha,rfl⟩:=h
 obtain ⟨b,hb,rfl⟩:=k
 rw [ha.uniq hb]
theorem Fit.congr {p q:Int→Bool} {was s:Array (Int×Int)} (h:Fit p was s) (e:∀ n,p n=q n):Fit q was s:=by
 obtain ⟨a,ha,rfl⟩:=h
 exact ⟨a,⟨ha.1,fun n=>(ha.2 n).trans (e n)⟩,rfl⟩
theorem addF_list {out:Array (Int×Int)} {x:Int×Int}:(out=#[]∧(addF out x).toList=[x])∨∃ l y,out.toList=l ++ [y]∧(addF out x).toList=if x.1≤y.2 + 1 then l ++ [(y.1,max y.2 x.2)] else l ++ [y,x]:=by
 rcases Nat.eq_zero_or_pos out.size with h0 | h0
 ·left
  obtain rfl:out=#[]:=Array.eq_empty_of_size_eq_zero h0
  exact ⟨rfl,by simp [addF]⟩
 ·right
  have hne:out.toList≠[]:=fun e=>by
   have h1:out.toList.length=0:=by rw [e];rfl
   rw [Array.length_toList] at h1
   omega
  have e0:=(List.dropLast_concat_getLast hne).symm
  generalize out.toList.dropLast=l at e0
  generalize out.toList.getLast hne=y at e0
  refine ⟨l,y,e0,?_⟩
  obtain rfl:out=(l ++ [y]).toArray:=by rw [←e0]
  unfold addF
  have e1:(l ++ [y]).toArray[(l ++ [y]).toArray.size - 1]! = y:=by
   rw [getElem!_pos _ _ (by simp)];simp
  rw [e1]
  by_cases hx:x.1≤y.2 + 1
  ·rw [if_pos ⟨by simp,hx⟩,if_pos hx];simp
  ·rw [if_neg (fun h=>hx h.2),if_neg hx];simp
theorem addF_ok {out:Array (Int×Int)} {x:Int×Int} (h:NL out.toList) (hx:1≤x.1∧x.1≤x.2∧x.2≤1000000) (hl:∀ y ∈ out.toList,y.1≤x.1) :
 NL (addF out x).toList∧(∀ n,inR (addF out x) n=(inR out n || qde n x))∧∀ z,(∀ y ∈ out.toList,y.1≤z)→x.1≤z→∀ y ∈ (addF out x).toList,y.1≤z:=by
 unfold inR
 rcases addF_list (out:=out) (x:=x) with ⟨rfl,e⟩ | ⟨l,y,e0,e⟩
 ·rw [e]
  exact ⟨⟨by simpa using hx,by simp⟩,fun n=>by simp,by simp⟩
 ·rw [e0] at h hl
  rw [e,e0]
  have hp:=List.pairwise_append.1 h.2
  have hy:=h.1 y (by simp)
  have hxy:=hl y (by simp)
  by_cases hc:x.1≤y.2 + 1
  ·rw [if_pos hc]
   refine ⟨⟨?_,?_⟩,?_,?_⟩
   ·intro z hz
    rcases List.mem_append.1 hz with hz | hz
    ·exact h.1 z (by simp [hz])
    ·simp at hz;subst hz;simp only;omega
   ·rw [List.pairwise_append]
    refine ⟨hp.1,by simp,fun a ha b hb=>?_⟩
    simp at hb;subst hb
    exact hp.2.2 a ha y (by simp)
   ·intro n
    rw [List.any_append,List.any_append,Bool.or_assoc]
    congr 1
    simp only [List.any_cons,List.any_nil,Bool.or_false]
    rw [Bool.eq_iff_iff,Bool.or_eq_true,qek,qek,qek]
    simp only
    omega
   ·intro z h1 h2 u hu
    rcases List.mem_append.1 hu with hu | hu
    ·exact h1 u (by simp [hu])
    ·simp at hu;subst hu;exact h1 y (by simp)
  ·rw [if_neg hc]
   refine ⟨⟨?_,?_⟩,?_,?_⟩
   ·intro z hz
    rcases List.mem_append.1 hz with hz | hz
    ·exact h.1 z (by simp [hz])
    ·simp at hz;rcases hz with rfl | rfl
     ·exact hy
     ·exact hx
   ·rw [List.pairwise_append]
    refine ⟨hp.1,by simp;omega,fun a ha b hb=>?_⟩
    have:=hp.2.2 a ha y (by simp)
    simp at hb;rcases hb with rfl | rfl
    ·exact this
    ·omega
   ·intro n
    simp only [List.any_append,List.any_cons,List.any_nil,Bool.or_false,Bool.or_assoc]
   ·intro z h1 h2 u hu
    rcases List.mem_append.1 hu with hu | hu
    ·exact h1 u (by simp [hu])
    ·simp at hu;rcases hu with rfl | rfl
     ·exact h1 _ (by simp)
     ·exact h2
theorem qvn:∀ (l:List (Int×Int)) (out:Array (Int×Int)),NL out.toList→(∀ x ∈ l,1≤x.1∧x.1≤x.2∧x.2≤1000000)→l.Pairwise (fun x y=>x.1≤y.1)→(∀ x ∈ l,∀ y ∈ out.toList,y.1≤x.1) →
 NL (l.foldl addF out).toList∧∀ n,inR (l.foldl addF out) n=(inR out n || l.any (qde n))
 | [],out,h,_,_,_=>⟨h,fun n=>by simp⟩
 | x :: l,out,h,hx,hp,hl=>by
   obtain ⟨a,b,c⟩:=addF_ok h (hx x (by simp)) (hl x (by simp))
   have hp':=List.pairwise_cons.1 hp
   have:=qvn l (addF out x) a (fun z hz=>hx z (by simp [hz])) hp'.2 (fun z hz=>c z.1 (hl z (by simp [hz])) (hp'.1 z hz))
   refine ⟨this.1,fun n=>?_⟩
   rw [List.foldl_cons,this.2 n,b n,List.any_cons,Bool.or_assoc]
theorem Formed.fit {m was out:Array (Int×Int)} (h:Formed m was out) (hm:∀ x ∈ m,isR x=true→1≤x.1∧x.1≤x.2∧x.2≤1000000):Fit (inR m) was out:=by
 obtain ⟨d',⟨_,hmem,hs⟩,rfl⟩:=h
 have hp:d'.toList.Pairwise (fun x y=>x.1≤y.1):=by
  rw [List.pairwise_iff_getElem]
  intro i j hi hj hij
  have:=hs i j hij (by simpa using hj)
  rw [getElem!_pos d' i (by simpa using hi),getElem!_pos d' j (by simpa using hj)] at this
  simpa using this
 have:=qvn (d'.toList.filter isR) #[] ⟨by simp,by simp⟩ (fun x hx=>by
  obtain ⟨h1,h2⟩:=List.mem_filter.1 hx
  exact hm x ((hmem x).1 (by simpa using h1)) h2) (hp.filter _) (by simp)
 refine ⟨qkf (d'.toList.filter isR),⟨this.1,fun n=>?_⟩,rfl⟩
 show inR (List.foldl addF #[] (d'.toList.filter isR)) n=_
 rw [this.2 n]
 have e0:inR #[] n=false:=rfl
 rw [e0,Bool.false_or,Bool.eq_iff_iff,qtp,qkh]
 constructor
 ·rintro ⟨x,hx,h1⟩
  obtain ⟨h3,_⟩:=List.mem_filter.1 hx
  exact ⟨x,by have:=(hmem x).1 (by simpa using h3);simpa using this,h1⟩
 ·rintro ⟨x,hx,h1,h2⟩
  refine ⟨x,List.mem_filter.2 ⟨by have:=(hmem x).2 (by simpa using hx);simpa using this,?_⟩,h1,h2⟩
  unfold isR;simp;omega
def may1 (n:Int):Bool:=decide (1≤n∧n≤1000000)
theorem qpt {d:Array (Int×Int)} {x:Int×Int} {n:Int}:inR (d.push x) n=(inR d n || qde n x):=by unfold inR;simp
theorem qis {d:Array (Int×Int)} (h:NL d.toList) {n:Int} (hn:inR d n=true):1≤n∧n≤1000000:=by
 obtain ⟨x,hx,h1,h2⟩:=qkh.1 hn
 have:=h.1 x hx
 omega
theorem qoh {d:Array (Int×Int)} {n:Int}:inR d n=true↔∃ j,j < d.size∧d[j]!.1≤n∧n≤d[j]!.2:=by
 rw [qkh]
 constructor
 ·rintro ⟨x,hx,h⟩
  obtain ⟨i,hi,rfl⟩:=List.mem_iff_getElem.1 hx
  have hi':i < d.size:=by simpa using hi
  exact ⟨i,hi',by rw [getElem!_pos d i hi'];simpa using h⟩
 ·rintro ⟨j,hj,h⟩
  exact ⟨d[j]!,by rw [getElem!_pos d j hj];simp,h⟩
theorem qvo (d1 d2:Array (Int×Int)) (n:Int):∀ k,inR (qib d1 d2 k) n=true↔inR d1 n=true∨((1≤n∧n≤1000000)∧∃ j,j < k∧d2[j]!.1≤n∧n≤d2[j]!.2)
 | 0=>by simp [qib]
 | k + 1=>by
   show inR ((qib d1 d2 k).push _) n=true↔_
   rw [qpt,Bool.or_eq_true,qvo d1 d2 n k,qek]
   unfold qej
   simp only
   constructor
   ·rintro ((h | ⟨h,j,hj,hh⟩) | h)
    ·exact Or.inl h
    ·exact Or.inr ⟨h,j,by omega,hh⟩
    ·exact Or.inr ⟨by omega,k,by omega,by omega,by omega⟩
   ·rintro (h | ⟨h,j,hj,hh⟩)
    ·exact Or.inl (Or.inl h)
    ·rcases Nat.lt_or_ge j k with h' | h'
     ·exact Or.inl (Or.inr ⟨h,j,h',hh⟩)
     ·obtain rfl:j=k:=by omega
      exact Or.inr (by omega)
def pAdd (d1 d2:Array (Int×Int)) (n:Int):Bool:=may1 n && (inR d1 n || inR d2 n)
def qpu (d:Array (Int×Int)) (r:Int×Int) (n:Int):Bool:=inR d n && !qde n r
def pGaps (d:Array (Int×Int)) (r:Int×Int) (n:Int):Bool:=may1 n && (qde n r && !inR d n)
theorem qjo {n:Int}:may1 n=true↔1≤n∧n≤1000000:=by unfold may1;simp
theorem qvp (d:Array (Int×Int)) (r:Int×Int) (hr:r.1≤r.2) (n:Int):∀ k,inR (qhg d r k) n=true↔(∃ j,j < k∧d[j]!.1≤n∧n≤d[j]!.2)∧¬ (r.1≤n∧n≤r.2)
 | 0=>by simp [qhg,inR]
 | k + 1=>by
   show inR (((qhg d r k).push _).push _) n=true↔_
   rw [qpt,qpt,Bool.or_eq_true,Bool.or_eq_true,qvp d r hr n k,qek,qek]
   simp only
   constructor
   ·rintro ((⟨⟨j,hj,hh⟩,h⟩ | h) | h)
    ·exact ⟨⟨j,by omega,hh⟩,h⟩
    ·exact ⟨⟨k,by omega,by omega⟩,by omega⟩
    ·exact ⟨⟨k,by omega,by omega⟩,by omega⟩
   ·rintro ⟨⟨j,hj,hh⟩,h⟩
    rcases Nat.lt_or_ge j k with h' | h'
    ·exact Or.inl (Or.inl ⟨⟨j,h',hh⟩,h⟩)
    ·obtain rfl:j=k:=by omega
     omega
theorem less_fit {d out:Array (Int×Int)} {r:Int×Int} (hs:qam d=0) (h:qhh d r out):Fit (qpu d r) d out:=by
 have hd:=NL.of_set hs
 unfold qhh at h
 split at h
 ·rename_i he
  subst h
  refine ⟨out,⟨hd,fun n=>?_⟩,by rw [if_pos (qdm hs).1]⟩
  unfold qpu
  cases hn:inR out n
  ·rfl
  ·have:=qis hd hn
   have e:qde n r=false:=by
    rw [Bool.eq_false_iff]
    intro h;rw [qek] at h
    unfold qej at he
    simp only at he
    omega
   rw [e];rfl
 ·rename_i he
  have hb:1≤(qej r).1∧(qej r).2≤1000000:=by unfold qej;constructor <;> (simp only;omega)
  refine (h.fit (qps hs (by omega) _ (Nat.le_refl _))).congr fun n=>?_
  rw [Bool.eq_iff_iff,qvp d _ (by omega),←qoh]
  unfold qpu
  rw [Bool.and_eq_true,Bool.not_eq_true',Bool.eq_false_iff,Ne,qek]
  constructor
  ·rintro ⟨h1,h2⟩
   have:=qis hd h1
   refine ⟨h1,?_⟩
   unfold qej at h2
   simp only at h2
   omega
  ·rintro ⟨h1,h2⟩
   refine ⟨h1,?_⟩
   unfold qej
   simp only
   omega
theorem Fit.set {p:Int→Bool} {was out:Array (Int×Int)} (h:Fit p was out) (hw:qam was=0):qam out=0:=by
 obtain ⟨s,hs,rfl⟩:=h
 split
 ·rename_i h;exact hs.1.set h
 ·exact hw
end Go.Proofs.YtlkmagmdhopcjaaGreat
namespace Go.Proofs.YtlkmagmdhopcjaaGreat
open Go.RowKit Go.Sort Go.Lib
theorem four_new (W:World) (H:Nat) (hH:W.heap.size=H) (p q r s:Value) (t:TypeId):∀ j u,[p,q,r,s][j]?=some u→(W.alloc (.cells #[p,q,r,s] t)).cell? ((⟨H,0,none⟩:Addr).add j)=some u:=by
 intro j u hj
 subst hH
 rw [Addr.add_lit,Nat.zero_add,qbb]
 rw [←hj]
 simp
theorem qvq {w wr w1:World} {B:Nat} {o o':Obj} {e:TypeId} {s n:Nat} {v:Value} {xs:List Value} (hb:Below B w wr) (hB:B≤wr.heap.size) (hown:wr.ownsRow B e s v n xs) (hg:((wr.alloc o).alloc o').grownBy w1 v.ownBlock):Below B w w1 :=
 ((hb.alloc hB o).alloc (by simp;omega) o').grown hg (by simp;omega) (fun k hk=>(hown.lt k hk).1)
theorem two_set {W:World} {b:Nat} {p q u v:Value} (h0:W.cell? ⟨b,0,none⟩=some p) (h1:W.cell? ⟨b,1,none⟩=some q) :
 ((W.setCell ⟨b,0,none⟩ u).setCell ⟨b,1,none⟩ v).cell? ⟨b,0,none⟩=some u∧((W.setCell ⟨b,0,none⟩ u).setCell ⟨b,1,none⟩ v).cell? ⟨b,1,none⟩=some v:=by
 constructor
 ·rw [World.cell?_setCell_other]
  ·apply World.cell?_setCell_same;exact h0
  ·simp
 ·apply World.cell?_setCell_same (u:=q)
  rw [World.cell?_setCell_other]
  ·exact h1
  ·simp
set_option maxRecDepth 100000 in
set_option maxHeartbeats 4000000 in
theorem gLess_any (A1:Option Addr) (c1:Nat) (d1:Array (Int×Int)) (r:Int×Int) (w:World) (h1:RdK encR 2 w.heap.size w A1 d1) :
 Calls Tryz.prog 218 #[.slice A1 d1.size c1,.agg #[.int .i64 r.1,.int .i64 r.2]] w fun e w'=>∃ v out,e=.returned v∧(qam d1=0→qhh d1 r out)∧(qam d1≠0→out=#[])∧w'.ownsRow w.heap.size 124 2 v out.size (flatK encR 2 out).toList∧Below w.heap.size w w':=by
 have r0:=hI ((h1.alloc (Nat.le_refl _) (.cells #[.int .i64 r.1,.int .i64 r.2] 124)).mono (show w.heap.size≤(w.alloc (.cells #[.int .i64 r.1,.int .i64 r.2] 124)).heap.size by simp))
 by_cases hs:qam d1=0
 ·have hq:(qam d1 == 0)=true:=by simp [hs]
  have hd1:=(qdm hs).1
  have HO:=hI (fun r hr=>qps (r:=r) hs hr d1.size (Nat.le_refl _))
  have HK:=hI (fun k hk=>@ok_at d1 hs k hk)
  have HS:=hI hs
  obtain ⟨i0,hi0,hz0,hz1,hz2⟩:=info_parts qfh
  clear hs
  go_enter Tryz.func218,Tryz.ntmps218
  go_wp2_with fail
  refine (qfv _ _ d1 _ r0.out).mono ?_
  rintro e w1 ⟨rfl,hb1⟩
  have cb0:w1.cell? ⟨w.heap.size,0,none⟩=some (.int .i64 r.1):=(hb1.cell (p:=⟨w.heap.size,0,none⟩) (by simp)).trans (qbb w #[.int .i64 r.1,.int .i64 r.2] _ 0)
  have cb1:w1.cell? ⟨w.heap.size,1,none⟩=some (.int .i64 r.2):=(hb1.cell (p:=⟨w.heap.size,1,none⟩) (by simp)).trans (qbb w #[.int .i64 r.1,.int .i64 r.2] _ 1)
  go_wp2_with fail
  refine (qvm r _).mono ?_
  rintro e w2 ⟨rfl,hb2⟩
  have hw1:w.heap.size < w1.heap.size:=by have:=hb1.size;simp at this;omega
  have blk:w2.heap[w.heap.size]?=some (.cells #[.int .i64 r.1,.int .i64 r.2] 124 (0,0)):=(hb2.block _ hw1).trans ((hb1.block _ (by simp)).trans (heap_alloc_new w _))
  have cc0:w2.cell? ⟨w.heap.size,0,none⟩=some (.int .i64 r.1):=(hb2.cell (p:=⟨w.heap.size,0,none⟩) hw1).trans cb0
  have cc1:w2.cell? ⟨w.heap.size,1,none⟩=some (.int .i64 r.2):=(hb2.cell (p:=⟨w.heap.size,1,none⟩) hw1).trans cb1
  have cf0:w2.frozen? ⟨w.heap.size,0,none⟩=false:=by simp [World.frozen?,blk]
  have cf1:w2.frozen? ⟨w.heap.size,1,none⟩=false:=by simp [World.frozen?,blk]
  have hB2:Below w.heap.size w w2:=qaa (qaa (bel1 _ _) hb1) hb2
  have HB2:=hI hB2
  have Z2:Hid (w.heap.size + 1≤w2.heap.size):=Nat.le_trans hw1 hb2.size
  clear cb0 cb1 blk hb1 hb2
  by_cases hh:(qej r).2 < (qej r).1
  ·have HL:Hid (∀ out,out=d1→qhh d1 r out):=fun out h=>by unfold qhh;rw [if_pos hh];exact h
   generalize qej r=q at hh
   have hB3:Below w.heap.size w ((w2.setCell ⟨w.heap.size,0,none⟩ (.int .i64 q.1)).setCell ⟨w.heap.size,1,none⟩ (.int .i64 q.2)):=(HB2.out.setCell (p:=⟨w.heap.size,0,none⟩) (Nat.le_refl _) _).setCell (p:=⟨w.heap.size,1,none⟩) (Nat.le_refl _) _
   have HC:=hI (qvk A1 c1 d1 _ ((h1.below hB3).mono hB3.size) (by omega))
   have HB3:=hI hB3
   clear hB3
   go_wp2_with fail
   refine HC.out.mono ?_
   rintro e w4 ⟨v,rfl,hown,hb4⟩
   go_wp2
   go_ret
   exact ⟨v,d1,rfl,fun _=>HL.out d1 rfl,fun h=>absurd HS.out h,qbs hown HB3.out.size,qaa HB3.out hb4⟩
  ·have HL:Hid (∀ out,Formed (qhg d1 (qej r) d1.size) d1 out→qhh d1 r out):=fun out h=>by unfold qhh;rw [if_neg hh];exact h
   have hb:1≤(qej r).1∧(qej r).2≤1000000:=by unfold qej;constructor <;> (simp only;omega)
   generalize qej r=q at hh hb HL
   have hqd:decide (q.2 < q.1)=false:=by simp;omega
   have hB3:Below w.heap.size w ((w2.setCell ⟨w.heap.size,0,none⟩ (.int .i64 q.1)).setCell ⟨w.heap.size,1,none⟩ (.int .i64 q.2)):=(HB2.out.setCell (p:=⟨w.heap.size,0,none⟩) (Nat.le_refl _) _).setCell (p:=⟨w.heap.size,1,none⟩) (Nat.le_refl _) _
   have hz2:w.heap.size + 1≤w2.heap.size:=by have:=HB2.out.size;have:=Z2.out;omega
   obtain ⟨q0,q1⟩:=two_set (u:=.int .i64 q.1) (v:=.int .i64 q.2) cc0 cc1
   have hz3:w.heap.size + 1≤((w2.setCell ⟨w.heap.size,0,none⟩ (.int .i64 q.1)).setCell ⟨w.heap.size,1,none⟩ (.int .i64 q.2)).heap.size:=by simpa [World.setCell] using hz2
   have HQ:=hI hb
   go_wp2
   generalize (w2.setCell ⟨w.heap.size,0,none⟩ (.int .i64 q.1)).setCell ⟨w.heap.size,1,none⟩ (.int .i64 q.2)=W3 at hB3 q0 q1 hz3 ⊢
   clear cc0 cc1 cf0 cf1 hB2 hz2 hw1
   go_loopw [5,22] (fun m i wr=>∃ k:Nat,k≤d1.size∧i=.int .i64 k∧wr.ownsRow (w.heap.size + 1) 124 2 m (qhg d1 q k).size (flatK encR 2 (qhg d1 q k)).toList∧Below (w.heap.size + 1) W3 wr) (fun _ i _=>d1.size - (intOf i).toNat)
   case atStart=>exact ⟨0,Nat.zero_le _,rfl,qci _ _ _ _ _,Below.refl _ _⟩
   case round =>
    obtain ⟨k,hk,rfl,hown,hb⟩:=hrel
    have ms:(qhg d1 q k).size≤2 * k:=Nat.le_of_eq (qog d1 q k)
    have hBw:Below w.heap.size w wr:=hB3.trans (hb.mono (by omega))
    have hzr:w.heap.size + 1≤wr.heap.size:=Nat.le_trans hz3 hb.size
    by_cases hlt:k < d1.size
    ·obtain ⟨b,off,rfl,_,f⟩:=(h1.below hBw).at_ hlt
     have f0:=f 0 (by omega)
     have f1:=f 1 (by omega)
     have HX:=HK.out k hlt
     have HL:Hid (qhg d1 q (k + 1)=((qhg d1 q k).push (d1[k]!.1,min d1[k]!.2 (q.1 - 1))).push (max d1[k]!.1 (q.2 + 1),d1[k]!.2)):=rfl
     have hx1:=HX.1
     have hx2:=HX.2.1
     have hx3:=HX.2.2.1
     clear HX
     generalize d1[k]! = x at f0 f1 HL hx1 hx2 hx3
     simp only [Nat.add_zero,encR,List.getElem!_cons_zero,List.getElem!_cons_succ] at f0 f1
     clear f
     generalize qhg d1 q k=m at hown HL ms
     obtain ⟨Am,cm,rfl,_,_⟩:=qaw hown
     have g0:wr.cell? ⟨w.heap.size,0,none⟩=some (.int .i64 q.1):=(hb.cell (p:=⟨w.heap.size,0,none⟩) (by simp)).trans q0
     have g1:wr.cell? ⟨w.heap.size,1,none⟩=some (.int .i64 q.2):=(hb.cell (p:=⟨w.heap.size,1,none⟩) (by simp)).trans q1
     have c0:∀ o,(wr.alloc o).cell? ⟨w.heap.size,0,none⟩=some (.int .i64 q.1):=fun o=>(World.cell?_alloc_lt wr o ⟨w.heap.size,0,none⟩ (by show w.heap.size < _;omega)).trans g0
     have c1':∀ o,(wr.alloc o).cell? ⟨w.heap.size,1,none⟩=some (.int .i64 q.2):=fun o=>(World.cell?_alloc_lt wr o ⟨w.heap.size,1,none⟩ (by show w.heap.size < _;omega)).trans g1
     have hq1:=HQ.out.1
     have hq2:=HQ.out.2
     have kz:(k:Int) < (d1.size:Int):=by omega
     clear q0 q1
     go_wp2_with (at_builtin;refine wpList_append_own _ rfl _ _ 64 rfl (w.heap.size + 1) 124 i0 (.agg #[.int .i64 0,.int .i64 0]) 2 16 Tryz.underlying64 hi0 hz0 hz1 hz2 rfl (by decide) _ _ _ rfl ((hown.alloc _).alloc _) ⟨wr.heap.size + 1,0,none⟩ 2 2 [.int .i64 x.1,.int .i64 (min x.2 (q.1 - 1)),.int .i64 (max x.1 (q.2 + 1)),.int .i64 x.2] rfl rfl (four_new (wr.alloc _) _ (by simp) _ _ _ _ _) (by simp [Value.oneCell']) (by unfold maxLen;omega) (by omega) (by simp;omega) ?_;intro v' w4 hown' hgrow _)
     exact ⟨⟨k + 1,by omega,by go_num,(by rw [HL.out,Array.size_push,Array.size_push,qbm qdl,qbm qdl,List.append_assoc];exact hown'),qvq hb hzr hown hgrow⟩,by simp [intOf];omega⟩
    ·obtain rfl:k=d1.size:=by omega
     have HR:=hI (HO.out q (by have:=HQ.out;omega))
     generalize hm:qhg d1 q d1.size=m at hown HR ms
     have HE:=hI hm
     clear hm
     obtain ⟨Am,cm,rfl,hrm,_⟩:=qaw hown
     have HF:=hI (qvl Am cm m A1 c1 d1 wr hrm ((h1.below hBw).mono hBw.size) (by omega) (by omega) HR.out)
     have HBW:=hI hBw
     clear q0 q1
     go_wp2_with fail
     refine HF.out.mono ?_
     rintro e w5 ⟨d',v,out,rfl,hS,ho,hown5,hb5⟩
     have HX:Hid (Formed m d1 out):=⟨d',hS,ho⟩
     clear hS ho
     go_wp2
     go_ret
     exact ⟨_,out,rfl,fun _=>HL.out out (by rw [HE.out];exact HX.out),fun h=>absurd HS.out h,qbs hown5 HBW.out.size,qaa HBW.out hb5⟩
 ·have hq:(qam d1 == 0)=false:=by simpa using hs
  have HS:=hI hs
  clear hs
  go_enter Tryz.func218,Tryz.ntmps218
  go_wp2_with fail
  refine (qfv _ _ d1 _ r0.out).mono ?_
  rintro e w1 ⟨rfl,hb1⟩
  go_wp2
  go_ret
  exact ⟨_,#[],rfl,fun h=>absurd h HS.out,fun _=>rfl,qci _ _ _ _ _,qaa (bel1 _ _) hb1⟩
theorem gCut_any (A1:Option Addr) (c1:Nat) (d1:Array (Int×Int)) (n:Int) (w:World) (h1:RdK encR 2 w.heap.size w A1 d1) :
 Calls Tryz.prog 159 #[.slice A1 d1.size c1,.int .i64 n] w fun e w'=>∃ v out,e=.returned v∧(qam d1=0→qhh d1 (1,n) out)∧(qam d1≠0→out=#[])∧w'.ownsRow w.heap.size 124 2 v out.size (flatK encR 2 out).toList∧Below w.heap.size w w':=by
 have H:=hI (gLess_any A1 c1 d1 (1,n) w h1)
 go_enter Tryz.func159,Tryz.ntmps159
 go_wp2_with fail
 refine H.out.mono ?_
 rintro e w1 ⟨v,out,rfl,ho1,ho2,hown,hb⟩
 have HO1:=hI ho1
 have HO2:=hI ho2
 clear ho1 ho2
 go_wp2
 go_ret
 exact ⟨v,out,rfl,HO1.out,HO2.out,hown,hb⟩
end Go.Proofs.YtlkmagmdhopcjaaGreat
