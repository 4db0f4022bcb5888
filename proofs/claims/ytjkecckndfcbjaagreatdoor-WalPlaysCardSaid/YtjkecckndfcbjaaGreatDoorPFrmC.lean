/- Texts that the law leans on. -/
import Derived.RangeFuncBound
import Derived.RangeFuncLeaves
import Derived.Shelf.Abstract
import Derived.Shelf.RegionOpen
import Derived.OwnWalkIn
import Derived.TacticsInMore
import Derived.LoopNIn
import Derived.LoopIn
import Derived.Maps.AppendAt
import Derived.BigGuardIn
import Derived.RangeFuncNested
import Derived.RangeFuncCalls
import Derived.OrdersIn
import Derived.StillTail
import Derived.Test.YtjkecckndfcbjaaGreatDoorPFrmB
import Derived.Test.YtjkecckndfcbjaaGreatDoorPBase
namespace Go.Proofs.YtjkecckndfcbjaaGreatDoor
open Go.RowKit Go.Sort Go.Lib Go.Shelf Crc Nb
set_option maxRecDepth 100000
attribute [local go_sem] Oper.semAt_some
def plL:Nat→List (List UInt8)→List (Nat×List UInt8)
 | _,[]=>[]
 | p,b :: l=>(p + (qak b).length,b) :: plL (p + (qak b).length) l
def encY (x:Nat×List UInt8):Array Value:=#[.int .i64 (x.1:Int),.string ⟨x.2.toArray⟩]
def KgF (g:Nat) (W W':World):Prop:=W.heap.size≤W'.heap.size∧W'.heap[g]?=W.heap[g]?
theorem KgF.refl (g:Nat) (W:World):KgF g W W:=⟨Nat.le_refl _,rfl⟩
theorem KgF.trans {g:Nat} {A B C:World} (h:KgF g A B) (k:KgF g B C):KgF g A C:=⟨Nat.le_trans h.1 k.1,k.2.trans h.2⟩
theorem KgF.of {g:Nat} {W W':World} (hg:g < W.heap.size) (h:Below W.heap.size W W'):KgF g W W':=⟨h.size,h.block g hg⟩
theorem KgF.putObj {g s:Nat} (hg:g < s) (W:World) (l:Nat) (o o':Obj) (hl:s≤l) (_:W.heap[l]?=some o) (_:o.isCells=false) (_:o.isWalk=false):KgF g W (W.putObj l o') :=
 ⟨by simp [World.putObj],World.putObj_heap_other (by omega)⟩
theorem qgh {W W':World} (h:Below W.heap.size W W'):W.grownBy W' none:=⟨h.os,h.tape,h.output,h.size,fun k hk _=>h.block k hk⟩
theorem plL_ok {s b:List UInt8} {k p:Nat} (h:frL (s.drop p)=.ok b k):plL p (allL (s.drop p)).1=(p + k,b) :: plL (p + k) (allL (s.drop (p + k))).1:=by
 obtain ⟨-,h2,-,-⟩:=qpi h
 rw [qnc h,List.drop_drop]
 simp only [plL,←h2]
set_option maxHeartbeats 2000000 in
theorem qww (n:Nat) (hn:1≤n) (l b:Nat) (s:ByteArray) (hs:s.size≤1000000) (J Jx:List (Nat×List UInt8)→World→Prop)
 (hY:∀ pre x W,J pre W→pre.length < s.size→YieldAt Fence.wide (n - 1) Tryz.prog l (encY x) W fun e W' =>
   (e=.returned (.bool true)∧J (pre ++ [x]) W'∧KgF b W W')∨(e=.returned (.bool false)∧Jx (pre ++ [x]) W'))
 (W:World) (hJ:AbidesFrom W.heap.size J) (hb:b < W.heap.size) (hcell:W.cell? ⟨b,0,none⟩=some (.string s)) (h0:J [] W) :
 CallsIn Fence.wide n Tryz.prog 130 #[.func (.yield l) #[] #[],.pointer (some ⟨b,0,none⟩)] W fun e W'=>(∃ v,e=.returned v) ∧
  ((∃ ys:List (Nat×List UInt8),ys=plL 0 (allL s.data.toList).1∧J ys W')∨(∃ pre,True∧Jx pre W')):=by
 have HG:=hI (fun (W:World) (p:Nat) (hp:p≤s.size)=>fGet_any s p W hp hs)
 have HY:=hI hY
 have HJ:=hI hJ
 have HC:=hI hcell
 have elen:s.data.toList.length=s.size:=by simp
 have HL:=hI elen
 clear elen hY hJ hcell
 refine callsIn_of_wp Tryz.func130 rfl trivial ?_ rfl
 simp only [Tryz.ntmps130,List.size_toArray,List.length_cons,List.length_nil,Nat.reduceAdd,Nat.reduceSub,Array.replicate_succ,Array.replicate_zero,List.push_toArray,List.append_toArray,List.nil_append,List.cons_append]
 gi_wp2
 gi_loopw [3] (fun i wr=>∃ (p:Nat) (pre:List (Nat×List UInt8)),i=.int .i64 (p:Int)∧p≤s.size∧pre.length≤p∧Hid (pre ++ plL p (allL (s.data.toList.drop p)).1=plL 0 (allL s.data.toList).1)∧J pre wr∧KgF b W wr) (fun i _=>s.size - (intOf i).toNat)
 case atStart=>exact ⟨0,[],rfl,Nat.zero_le _,Nat.le_refl _,by show _=_;simp,h0,KgF.refl _ _⟩
 case round =>
  obtain ⟨p,pre,rfl,hp,hpl,HO,hJs,hk⟩:=hrel
  have HGp:=hI (HG.out wr p hp)
  have hbw:b < wr.heap.size:=Nat.lt_of_lt_of_le hb hk.1
  have hcw:wr.cell? ⟨b,0,none⟩=some (.string s):=(World.cell?_of_block (w:=W) (a:=⟨b,0,none⟩) hk.2).trans HC.out
  cases hf:frL (s.data.toList.drop p) with
  | no c =>
    have hc0:=frL_no hf
    have hc':((c:Int) != 0)=true:=by simp;omega
    have e1:gfR s p=.no c:=hf
    rw [e1] at HGp
    rw [qnb hf] at HO
    simp only [gfB,gfT,gfE,plL,List.append_nil] at HGp HO
    clear hf hc0 e1
    gi_wp2_with fail
    refine ⟨trivial,?_⟩
    gi_at_call 131
    refine (callsIn_wide.2 HGp.out).mono ?_
    rintro _ w2 ⟨rfl,hb2⟩
    have hJ2:=HJ.out pre wr w2 none hJs (qgh hb2) (fun r e=>by cases e)
    clear hb2
    gi_wp2
    refine ⟨fun _ h=>(by cases h),?_⟩
    gi_wp2
    refine bodyPost_ret (results_none rfl _ _ _) rfl ?_
    exact ⟨⟨_,rfl⟩,.inl ⟨_,HO.out,hJ2⟩⟩
  | ok bd k =>
    obtain ⟨q1,q2,q3,q4⟩:=qpi hf
    have q5:=qff bd
    rw [List.length_drop,HL.out] at q3
    have e1:gfR s p=.ok bd k:=hf
    rw [e1] at HGp
    rw [plL_ok hf] at HO
    simp only [gfB,gfT,gfE] at HGp
    obtain ⟨t,ht⟩:∃ t,p + k=t:=⟨_,rfl⟩
    rw [ht] at HGp HO
    have HN:Hid ((pre ++ [(t,bd)]) ++ plL t (allL (s.data.toList.drop t)).1=plL 0 (allL s.data.toList).1):=by show _=_;rw [←HO.out];simp
    have ht1:t≤s.size:=by omega
    have ht2:p < t:=by omega
    clear ht q1 q2 q3 q4 q5 hf e1
    gi_wp2_with fail
    refine ⟨trivial,?_⟩
    gi_at_call 131
    refine (callsIn_wide.2 HGp.out).mono ?_
    rintro _ w2 ⟨rfl,hb2⟩
    have hJ2:=HJ.out pre wr w2 none hJs (qgh hb2) (fun r e=>by cases e)
    have hk2:=hk.trans (KgF.of hbw hb2)
    obtain ⟨fn,tmps,assign,body,hy,hRd⟩:=HY.out pre (t,bd) _ hJ2 (by omega)
    simp only [encY] at hy
    clear hb2
    gi_wp2
    refine hRd.mono ?_
    rintro e W3 (⟨rfl,hJ3,hk3⟩ | ⟨rfl,hJx3⟩)
    ·gi_wp2
     go_roundw
     case rel=>exact ⟨t,pre ++ [(t,bd)],by go_num,ht1,by simp;omega,HN,hJ3,hk2.trans hk3⟩
     case measure=>simp [intOf];omega
    ·gi_wp2
     refine bodyPost_ret (results_none rfl _ _ _) rfl ?_
     exact ⟨⟨_,rfl⟩,.inr ⟨_,trivial,hJx3⟩⟩
theorem qnq (b:Nat) (s:ByteArray) (hs:s.size≤1000000) (w:World) (n:Nat) (hn:1≤n) (hb:b < w.heap.size) (hcell:w.cell? ⟨b,0,none⟩=some (.string s)) :
 SeqStopsK Fence.wide n Tryz.prog 130 #[.pointer (some ⟨b,0,none⟩)] encY (KgF b) (fun ys=>ys=plL 0 (allL s.data.toList).1) (fun _=>True) s.size w:=fun l J Jx W hW hJ _ hY h0 =>
 qww n hn l b s hs J Jx hY W hJ (Nat.lt_of_lt_of_le hb hW.size) ((hW.cell (p:=⟨b,0,none⟩) hb).trans hcell) h0
theorem qwx (s:ByteArray) (w:World) :
 Calls Tryz.prog 95 #[.string s] w fun e w'=>e=.returned (.func (.func 130) #[] #[.pointer (some ⟨w.heap.size,0,none⟩)])∧w'=w.alloc (.cells #[.string s] 9):=by
 have hmf:∀ (fn:Fn) (first cap:Array Value) (w:World),(Instr.makeFunc fn first cap).run Tryz.prog w=.ok (.func fn first cap) w:=fun _ _ _ _=>rfl
 go_enter Tryz.func95,Tryz.ntmps95
 go_wp2
 go_ret
 exact ⟨rfl,rfl⟩
theorem qay {w:World} {base base':Nat} {e:TypeId} {size:Nat} {v:Value} {n:Nat} {xs:List Value} (h:w.ownsRow base e size v n xs) (hb:base'≤base):w.ownsRow base' e size v n xs :=
 ⟨h.1,h.2.imp id fun ⟨g,cap,cur,q1,q2,q3⟩=>⟨g,cap,cur,q1,Nat.le_trans hb q2,q3⟩⟩
theorem kg_app_F {W w2:World} {g B C:Nat} {v v' u:Value} {o:Obj} (hg:g < W.heap.size) (hgB:g≠B) (hgC:g≠C) (hne:v.ownBlock=some g→False) (hgrow:(W.alloc o).grownBy w2 v.ownBlock):KgF g W ((w2.setCell ⟨B,0,none⟩ v').setCell ⟨C,0,none⟩ u):=by
 have h1:=hgrow.size
 have h2:=hgrow.block g (by simp;omega) (fun e=>hne e.symm)
 have h3:=(grownBy_setCell' w2 B v').block g (by simp at h1;omega) (fun e=>hgB (by injection e))
 have h4:=(grownBy_setCell' w2 B v').size
 have h5:=(grownBy_setCell' (w2.setCell ⟨B,0,none⟩ v') C u).block g (by simp at h1;omega) (fun e=>hgC (by injection e))
 have h6:=(grownBy_setCell' (w2.setCell ⟨B,0,none⟩ v') C u).size
 exact ⟨by simp at h1;omega,h5.trans (h3.trans (h2.trans (Below.heap_alloc W o g hg)))⟩
theorem boxed_own {β:Type} (B:Nat) (t:TypeId) (f:β→Value):Own (fun s W=>Boxed W B t (f s)):=by
 rintro s X Y row hv hg hrow
 refine hv.kept hg (fun e'=>?_)
 obtain ⟨o,ho,hc⟩:=hrow B e'.symm
 rw [show X.heap[B]?=_ from hv] at ho;cases ho;cases hc
theorem box_atF {W:World} {n:Nat} {v:Value} {t:TypeId} (hn:W.heap.size=n):(W.alloc (.cells #[v] t)).cell? ⟨n,0,none⟩=some v:=by
 subst hn
 simp
def qfi (ys:List (Nat×List UInt8)):Nat:=match ys.getLast? with
 | some x=>x.1
 | none=>0
theorem qwy (pre:List (Nat×List UInt8)) (x:Nat×List UInt8):qfi (pre ++ [x])=x.1:=by unfold qfi;simp
theorem plL_map:∀ (l:List (List UInt8)) (p:Nat),(plL p l).map (·.2)=l
 | [],_=>rfl
 | b :: l,p=>by simp [plL,plL_map l]
theorem quh:∀ (l:List (List UInt8)) (p:Nat),l≠[]→qfi (plL p l)=p + (l.flatMap qak).length
 | [],_,h=>absurd rfl h
 | [b],p,_=>by simp [plL,qfi]
 | b :: c :: l,p,_=>by
   have ih:=quh (c :: l) (p + (qak b).length) (by simp)
   have e:qfi (plL p (b :: c :: l))=qfi (plL (p + (qak b).length) (c :: l)):=by
    unfold qfi
    simp [plL]
   rw [e,ih]
   simp only [List.flatMap_cons,List.length_append]
   omega
theorem plL_end (s:List UInt8):qfi (plL 0 (allL s).1)=(allL s).2:=by
 obtain ⟨-,h2,-,-⟩:=qfp s
 cases h:(allL s).1 with
 | nil=>rw [h2,h];rfl
 | cons b l=>rw [quh _ _ (by simp),h2,h];omega
def bodY (ys:List (Nat×List UInt8)):Array (List UInt8):=(ys.map (·.2)).toArray
theorem bodY_size (ys:List (Nat×List UInt8)):(bodY ys).size=ys.length:=by simp [bodY]
theorem bodY_snoc (pre:List (Nat×List UInt8)) (x:Nat×List UInt8):bodY (pre ++ [x])=(bodY pre).push x.2:=by simp [bodY]
set_option maxHeartbeats 4000000 in
theorem fAll_any (s:ByteArray) (w:World) (hs:s.size≤1000000) :
 Calls Tryz.prog 65 #[.string s] w (AllF s w):=by
 obtain ⟨i0,hi0,hz0,hz1,hz2⟩:=info_parts qqc
 have HF:=hI (qwx s ((w.alloc (.cells #[.slice none 0 0] 118)).alloc (.cells #[.int .i64 0] 3)))
 refine (callsIn_wide (n:=3)).1 ?_
 refine callsIn_of_wp_marks Tryz.func65 rfl trivial ?_ rfl
 simp only [Tryz.ntmps65,List.size_toArray,List.length_cons,List.length_nil,Nat.reduceAdd,Nat.reduceSub,Array.replicate_succ,Array.replicate_zero,List.push_toArray,List.append_toArray,List.nil_append,List.cons_append]
 gi_wp2_with fail
 refine ⟨trivial,?_⟩
 gi_at_call 95
 refine (callsIn_wide.2 HF.out).mono ?_
 rintro e w1 ⟨rfl,hw1⟩
 have hz:((w.alloc (.cells #[.slice none 0 0] 118)).alloc (.cells #[.int .i64 0] 3)).heap.size=w.heap.size + 2:=by simp
 rw [hz]
 have hsz:w1.heap.size=w.heap.size + 3:=by rw [hw1];simp
 have b1:Boxed w1 w.heap.size 118 (.slice none 0 0):=by rw [hw1];exact ((Boxed.new w _ _).alloc _).alloc _
 have b2:Boxed w1 (w.heap.size + 1) 3 (.int .i64 0):=by
  have:=((Boxed.new (w.alloc (.cells #[.slice none 0 0] 118)) 3 (.int .i64 0)).alloc (.cells #[.string s] 9))
  rw [hw1]
  simpa using this
 have cs:w1.cell? ⟨w.heap.size + 2,0,none⟩=some (.string s):=by rw [hw1];exact box_atF hz
 have hB:Below w.heap.size w w1:=by rw [hw1];exact qab (qab (bel1 w _) _) _
 clear hw1 hz HF
 gi_wp2
 refine wpIn_rangeFunc_ownH rfl (by omega) (gf:=130) (lb:=#[.pointer (some ⟨w.heap.size + 2,0,none⟩)]) rfl trivial (enters_of Tryz.func130 (by kernel_rfl) rfl)
  (qnq (w.heap.size + 2) s hs w1 _ (by omega) (by omega) cs) KgF.trans (KgF.putObj (by omega)) (Below.refl _ _) (fun _=>rfl)
  (fun pre W=>(∃ v,Boxed W w.heap.size 118 v∧W.ownsRow w1.heap.size 9 1 v (bodY pre).size (flatK eS 1 (bodY pre)).toList∧True)∧(Boxed W (w.heap.size + 1) 3 (.int .i64 (qfi pre:Int))∧(Below w.heap.size w W∧w1.heap.size≤W.heap.size)))
  (fun _ _ _=>False)
  (OwnFrom.and (Own.from (holdsRow_own w1.heap.size w.heap.size 118 9 1 (fun pre=>(bodY pre).size) (fun pre=>(flatK eS 1 (bodY pre)).toList) (fun _ _=>True)) _) (OwnFrom.and (Own.from (boxed_own (w.heap.size + 1) 3 (fun pre=>.int .i64 (qfi pre:Int))) _) (OwnFrom.and (ownFrom_below (Nat.le_refl _) (by omega)) (fun _ _ _ _ hs hg _=>Nat.le_trans hs hg.size))))
  (fun _ _ _ _ _ hs _ _=>hs)
  ⟨⟨_,b1,qec _ _ _ _ _,trivial⟩,b2,hB,Nat.le_refl _⟩
  (fun x a' _=>a'={ tmps:=#[.string s,undef,.pointer (some ⟨w.heap.size,0,none⟩),.pointer (some ⟨w.heap.size + 1,0,none⟩),.int .i64 (x.1:Int),.string ⟨x.2.toArray⟩,.string s,.func (.func 130) #[] #[.pointer (some ⟨w.heap.size + 2,0,none⟩)],.int .i64 (x.1:Int),.string ⟨x.2.toArray⟩,undef,undef,undef,undef,undef,undef,undef],defers:=[] })
  (fun x a' _ X Y row hs hg hr=>hs)
  ?assign ?body ?done ?stop
 case assign =>
  rintro l pre x W K hI hK
  simp only [encY]
  gi_wp2
  exact hK _ _ ((KeepsOthers.refl _).from _) (KgF.refl _ W) hI rfl
 case body =>
  rintro l pre x a' W hl _ ⟨⟨v,bV,row,_⟩,bT,hBW,hsW⟩ rfl hlt
  have hps:=bodY_size pre
  have cV:=bV.cell
  have fV:=bV.frozen
  have cT:=bT.cell
  have fT:=bT.frozen
  obtain ⟨Am,cm,rfl,_,_⟩:=qbo row
  have HN:=hI (bodY_snoc pre x)
  have HLS:=hI (qwy pre x)
  generalize hbp:bodY pre=out at *
  have hos:out.size≤1000000:=by omega
  clear hps hbp
  gi_wp2_with (gi_at_builtin;refine wpListIn_append_own _ rfl _ _ 118 rfl w1.heap.size 9 i0 (.string ⟨#[]⟩) 1 16 Tryz.underlying118 hi0 hz0 hz1 hz2 rfl (by decide) _ _ _ rfl (row.alloc _) ⟨W.heap.size,0,none⟩ 1 1 [.string ⟨x.2.toArray⟩] rfl rfl (newF W _ _) (by simp [Value.oneCell']) (by unfold maxLen;omega) (by omega) (by simp;omega) ?_;intro v' w2 hown' hgrow _;obtain ⟨g',cap',rfl⟩:=ownsRow_succ hown';obtain ⟨hv1,hv2,hr2,hk2,hb2⟩:=bV.appended (by decide) (qay row (show w.heap.size≤w1.heap.size by omega)) hBW.size (Nat.le_refl _) (qay hown' (show w.heap.size≤w1.heap.size by omega)) hgrow;have hc1:=hv1.cell;have hf1:=hv1.frozen;have bT2:=(bT.alloc _).kept hgrow (bT.not_row (by decide) row);have hc2:=bT2.cell;have hf2:=bT2.frozen)
  have bT3:=bT2.other (B':=w.heap.size) (by omega) (.slice (some ⟨g',0,none⟩) (out.size + 1) cap')
  have bT4:=bT3.set (.int .i64 (x.1:Int))
  have hv3:=hv2.other (B':=w.heap.size + 1) (by omega) (.int .i64 (x.1:Int))
  have hr3:=hown'.kept (grownBy_setCell' w2 w.heap.size (.slice (some ⟨g',0,none⟩) (out.size + 1) cap')) (.inr (hv1.not_row (by decide) hown').symm)
  have hr4:=hr3.kept (grownBy_setCell' _ (w.heap.size + 1) (.int .i64 (x.1:Int))) (.inr (bT3.not_row (by decide) hr3).symm)
  have hkg:=kg_app_F (g:=w.heap.size + 2) (B:=w.heap.size) (C:=w.heap.size + 1) (v':=.slice (some ⟨g',0,none⟩) (out.size + 1) cap') (u:=.int .i64 (x.1:Int)) (show w.heap.size + 2 < W.heap.size by omega) (by omega) (by omega) (fun e=>by have:=(row.lt _ e).1;omega) hgrow
  refine ⟨(hk2.trans (KeepsOthers.setCell _ _ _)).from _,hkg,⟨_,hv3,?_,trivial⟩,?_,hBW.trans (hb2.setCell (p:=⟨w.heap.size + 1,0,none⟩) (by show w.heap.size≤w.heap.size + 1;omega) _),Nat.le_trans hsW hkg.1⟩
  ·rw [HN.out,Array.size_push,qgp eS_len]
   exact hr4
  ·rw [HLS.out]
   exact bT4
 case done =>
  rintro D ys W hD hys0 ⟨⟨v,bV,row,_⟩,bT,hBW,hsW⟩ hK
  have HYS:=hI hys0
  clear hys0
  obtain ⟨Am,cm,rfl,_,_⟩:=qbo row
  have cV:=bV.cell
  have fV:=bV.frozen
  have cT:=bT.cell
  have fT:=bT.frozen
  gi_wp2
  gi_region
  gi_wp2
  have bV5:Boxed (((W.setCell ⟨w.heap.size,0,none⟩ (.slice Am (bodY ys).size cm)).setCell ⟨w.heap.size + 1,0,none⟩ (.int .i64 (qfi ys:Int))).drew) w.heap.size 118 (.slice Am (bodY ys).size cm):=(bV.set _).other (by omega) _
  have bT5:Boxed (((W.setCell ⟨w.heap.size,0,none⟩ (.slice Am (bodY ys).size cm)).setCell ⟨w.heap.size + 1,0,none⟩ (.int .i64 (qfi ys:Int))).drew) (w.heap.size + 1) 3 (.int .i64 (qfi ys:Int)):=(bT.other (by omega) _).set _
  have row4:=row.kept (grownBy_setCell' W w.heap.size (.slice Am (bodY ys).size cm)) (.inr (bV.not_row (by decide) row).symm)
  have row5':=row4.kept (grownBy_setCell' _ (w.heap.size + 1) (.int .i64 (qfi ys:Int))) (.inr ((bT.other (B':=w.heap.size) (by omega) (.slice Am (bodY ys).size cm)).not_row (by decide) row4).symm)
  have row5:(((W.setCell ⟨w.heap.size,0,none⟩ (.slice Am (bodY ys).size cm)).setCell ⟨w.heap.size + 1,0,none⟩ (.int .i64 (qfi ys:Int))).drew).ownsRow w1.heap.size 9 1 (.slice Am (bodY ys).size cm) (bodY ys).size (flatK eS 1 (bodY ys)).toList:=row5'
  have hB5:Below w.heap.size w (((W.setCell ⟨w.heap.size,0,none⟩ (.slice Am (bodY ys).size cm)).setCell ⟨w.heap.size + 1,0,none⟩ (.int .i64 (qfi ys:Int))).drew):=((hBW.setCell (p:=⟨w.heap.size,0,none⟩) (Nat.le_refl _) _).setCell (p:=⟨w.heap.size + 1,0,none⟩) (by show w.heap.size≤w.heap.size + 1;omega) _).drew
  have hK5:(((W.setCell ⟨w.heap.size,0,none⟩ (.slice Am (bodY ys).size cm)).setCell ⟨w.heap.size + 1,0,none⟩ (.int .i64 (qfi ys:Int))).drew).heap[D]?=some (.deferred (some [])):=(Below.heap_setCell _ ⟨w.heap.size + 1,0,none⟩ _ D (by show D≠w.heap.size + 1;omega)).trans ((Below.heap_setCell _ ⟨w.heap.size,0,none⟩ _ D (by show D≠w.heap.size;omega)).trans hK)
  generalize ((W.setCell ⟨w.heap.size,0,none⟩ (.slice Am (bodY ys).size cm)).setCell ⟨w.heap.size + 1,0,none⟩ (.int .i64 (qfi ys:Int))).drew=Wn at bV5 bT5 row5 hB5 hK5 ⊢
  refine ⟨by simp,.inl ⟨_,_,rfl,run_takeDeferred hK5,?_⟩⟩
  have cV6:=(bV5.kept (grownBy_putObj' Wn D (.deferred none)) (by intro e;injection e with e;omega)).cell
  have cT6:=(bT5.kept (grownBy_putObj' Wn D (.deferred none)) (by intro e;injection e with e;omega)).cell
  refine ⟨.tuple #[.slice Am (bodY ys).size cm,.int .i64 (qfi ys:Int)],by simp [results,Tryz.results65,go_sem,cV6,cT6],?_⟩
  have hys:=HYS.out
  have e1:bodY ys=(allL s.data.toList).1.toArray:=by rw [hys];unfold bodY;rw [plL_map]
  have e2:qfi ys=(allL s.data.toList).2:=by rw [hys];exact plL_end _
  exact ⟨_,by rw [e2],by rw [←e1];exact ownsRow_putObj (qay row5 (show w.heap.size≤w1.heap.size by omega)) _ hK5 rfl,hB5.trans (belowK_b (w:=w) (Nat.le_refl _) Wn D _ _ (by omega) hK5 rfl rfl)⟩
 case stop =>
  rintro D c pre W _ _ h _
  exact h.elim
end Go.Proofs.YtjkecckndfcbjaaGreatDoor
