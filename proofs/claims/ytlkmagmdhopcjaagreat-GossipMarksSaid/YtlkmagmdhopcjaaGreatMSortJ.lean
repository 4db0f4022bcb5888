/- Texts that the law leans on. -/
import Derived.Test.YtlkmagmdhopcjaaGreatMSortH
import Derived.Test.YtlkmagmdhopcjaaGreatMIdentB
import Derived.Test.YtlkmagmdhopcjaaGreatMOwnK
namespace Go.Proofs.YtlkmagmdhopcjaaGreat
open Go.RowKit Go.Sort Go.Lib
set_option maxRecDepth 100000
theorem qgh (x:Int×Int):(qaf x).length=2:=rfl
theorem encA_1_I (x:Int×Int):∀ u ∈ qaf x,u.oneCell'=true:=by
 intro u hu
 simp only [qaf,List.mem_cons,List.not_mem_nil,or_false] at hu
 rcases hu with rfl | rfl <;> rfl
def srtA (d:Array (Int×Int)):Array (Int×Int):=(d.toList.mergeSort (fun x y=>!qae y x)).toArray
theorem lessA_eq {x y:Int×Int} (h1:qae x y=false) (h2:qae y x=false):x=y:=by
 obtain ⟨x1,x2⟩:=x
 obtain ⟨y1,y2⟩:=y
 unfold qae at *
 simp at *
 omega
theorem srtA_of {d d':Array (Int×Int)} (hp:PermIn 0 d.size d d') (hs:SortedIn qae 0 d.size d'):d'=srtA d:=by
 have:=sorted_unique_holds (lt:=qae) swoL (fun x y h1 h2=>lessA_eq h1 h2) d d' hp hs
 unfold srtA
 rw [←this]
theorem qmy (d:Array (Int×Int)):(srtA d).size=d.size:=by
 unfold srtA
 simp [List.length_mergeSort]
set_option maxRecDepth 100000 in
theorem qsb:∀ f n:Nat,bitLenAux f n≤f
 | 0,_=>Nat.le_refl _
 | f + 1,n=>by
   unfold bitLenAux
   have:=qsb f (n / 2)
   split <;> omega
set_option maxRecDepth 100000 in
theorem bitLen_64 (n:Nat):Lib.bitLen n≤64:=qsb 64 n
set_option maxRecDepth 100000 in
theorem srtA_nil:srtA #[]=#[]:=Array.eq_empty_of_size_eq_zero (by rw [qmy];rfl)
set_option maxRecDepth 100000 in
set_option maxHeartbeats 1000000 in
theorem ins_nil (fv:Value) (w:World) :
 Calls Tryz.prog 274 #[.slice none 0 0,.int .i64 0,.int .i64 0,fv] w fun e w'=>e=.returned (.tuple #[])∧w'=w:=by
 go_enter Tryz.func274,Tryz.ntmps274
 go_wp2
 refine wp_loop_rounds 1 ?_
 rw [rounds_succ]
 go_wp2
 go_end0
 exact ⟨rfl,rfl⟩
set_option maxRecDepth 100000 in
set_option maxHeartbeats 1000000 in
theorem pdq_nil (fv:Value) (l:Int) (w:World) :
 Calls Tryz.prog 260 #[.slice none 0 0,.int .i64 0,.int .i64 0,.int .i64 l,fv] w fun e w'=>e=.returned (.tuple #[])∧w'=w:=by
 go_enter Tryz.func260,Tryz.ntmps260
 go_wp2
 refine wp_loop_rounds 1 ?_
 rw [rounds_succ]
 go_wp2_with fail
 refine (ins_nil fv _).mono ?_
 rintro e w' ⟨rfl,rfl⟩
 go_wp2
 refine bodyPost_ret (qck rfl _ _ _) rfl ?_
 exact ⟨rfl,rfl⟩
set_option maxRecDepth 100000 in
set_option maxHeartbeats 1000000 in
theorem qsc (fv:Value) (w:World) :
 Calls Tryz.prog 216 #[.slice none 0 0,fv] w fun e w'=>e=.returned (.tuple #[])∧w'=w:=by
 go_enter Tryz.func216,Tryz.ntmps216
 go_wp2_with fail
 refine (Tryz.bits_Len _ _ (by omega) (by omega)).mono ?_
 rintro e w' ⟨rfl,rfl⟩
 go_wp2_with fail
 refine (pdq_nil fv _ _).mono ?_
 rintro e w' ⟨rfl,rfl⟩
 go_wp2
 go_end0
 exact ⟨rfl,rfl⟩
set_option maxRecDepth 100000 in
set_option maxHeartbeats 1000000 in
theorem qsd (blk off cap:Nat) (d:Array (Int×Int)) (w:World) (hH:HoldsK qaf 2 w blk off d) (hblk:blk < w.heap.size) (hsz:d.size≤1000000) :
 Calls Tryz.prog 216 #[.slice (some ⟨blk,off,none⟩) d.size cap,.func (.func 215) #[.agg #[]] #[]] w fun e w' =>
  e=.returned (.tuple #[])∧Srt w blk off (srtA d) w':=by
 have HP:=hI (fun (l:Nat) (hl:l≤64)=>pdq_any d.size blk off cap 0 d.size d.size l d w (Nat.le_refl _) hH hblk rfl (Nat.zero_le _) (Nat.le_refl _) hsz hl (Or.inl rfl))
 clear hH
 go_enter Tryz.func216,Tryz.ntmps216
 go_wp2_with fail
 refine (Tryz.bits_Len _ _ (by omega) (by omega)).mono ?_
 rintro e w' ⟨rfl,rfl⟩
 go_wp2_with fail
 refine (HP.out _ ?_).mono ?_
 ·exact bitLen_64 _
 rintro e w' ⟨rfl,d',hp,hs,hS⟩
 obtain rfl:=srtA_of hp hs
 go_wp2
 go_end0
 exact ⟨rfl,hS⟩
set_option maxRecDepth 100000 in
set_option maxHeartbeats 1000000 in
theorem qfx (A:Option Addr) (c:Nat) (d:Array (Int×Int)) (w:World) (h:RdK qaf 2 w.heap.size w A d) (hd:d.size≤1000000) :
 Calls Tryz.prog 65 #[.slice A d.size c] w fun e w'=>∃ v,e=.returned v∧w'.ownsRow w.heap.size 29 2 v d.size (flatK qaf 2 d).toList∧Below w.heap.size w w':=by
 obtain ⟨i0,hi0,hz0,hz1,hz2⟩:=info_parts qka
 cases A with
 | none =>
   have h0:d.size=0:=by
    rcases Nat.eq_zero_or_pos d.size with h0 | h0
    ·exact h0
    ·obtain ⟨b,off,e,_⟩:=h h0;cases e
   obtain rfl:d=#[]:=Array.eq_empty_of_size_eq_zero h0
   exact (AnyE.slices_Clone_nil Tryz.laysClone 0 c w).mono fun e w' ⟨he,hw⟩=>⟨_,he,qci _ _ _ _ _,by rw [hw];exact Below.refl _ _⟩
 | some ad =>
   have HR:=hI h
   clear h
   have q33:∀ (w:World) (a:Option Addr) (n c n' c':Nat),(binOp .eql 23 (.slice a n c) (.slice none n' c')).run Tryz.prog w=.ok (.bool a.isNone) w:=fun w a n c n' c'=>Lib.run_eql_slice_nil w _ _ a n c n' c' Tryz.underlying23
   go_enter Tryz.func65,Tryz.ntmps65
   go_wp2_with (at_builtin;refine qfg encA_1_I qgh (by decide) rfl (.tmp 5) (.tmp 6) 23 rfl w.heap.size 29 i0 (.agg #[.int .i64 0,.int .i64 0]) 16 Tryz.underlying23 hi0 hz0 hz1 hz2 rfl _ #[] rfl (qcc w 29 qaf 2) w.heap.size (some ad) c d rfl (HR.out.alloc (Nat.le_refl _) _) (fun h=>by cases h) (by simp;omega) (by decide) (by simp) ?_;intro v1 w1 hown1 hg1 _)
   go_ret
   have hb1:Below w.heap.size w w1:=(bel1 w _).grown hg1 (by simp) (fun k hk=>((qcc w 29 qaf 2).lt k hk).1)
   exact ⟨v1,rfl,by simpa using hown1,hb1⟩
set_option maxRecDepth 100000 in
set_option maxHeartbeats 1000000 in
theorem Sort_any (A:Option Addr) (c:Nat) (d:Array (Int×Int)) (w:World) (h:RdK qaf 2 w.heap.size w A d) (hd:d.size≤1000000) :
 Calls Tryz.prog 154 #[.slice A d.size c] w fun e w'=>∃ A' c',e=.returned (.slice A' d.size c')∧RdK qaf 2 w'.heap.size w' A' (srtA d)∧(A'=none→c'=0)∧(∀ g off,A'=some ⟨g,off,none⟩→w.heap.size≤g)∧Below w.heap.size w w':=by
 have HC:=hI (qfx A c d w h hd)
 clear h
 go_enter Tryz.func154,Tryz.ntmps154
 go_wp2_with fail
 refine HC.out.mono ?_
 rintro e w1 ⟨v,rfl,hown,hb⟩
 by_cases hn:v=.slice none 0 0
 ·subst hn
  have h0:d.size=0:=by
   obtain ⟨_,⟨_,h0⟩ | ⟨g,cap,cur,hv,_⟩⟩:=hown
   ·exact h0
   ·cases hv
  clear hown
  obtain rfl:d=#[]:=Array.eq_empty_of_size_eq_zero h0
  go_wp2_with fail
  refine (qsc _ _).mono ?_
  rintro e w2 ⟨rfl,rfl⟩
  go_wp2
  go_ret
  exact ⟨none,0,rfl,(by rw [srtA_nil];exact fun h=>absurd h (by decide)),fun _=>rfl,(fun _ _ e=>by cases e),hb⟩
 ·obtain ⟨g,cap,rfl,hg1,hg2,hH⟩:=qbo hown hn
  clear hown hn
  have HS:=hI (qsd g 0 cap d w1 hH hg2 hd)
  clear hH
  go_wp2_with fail
  refine HS.out.mono ?_
  rintro e w2 ⟨rfl,hS⟩
  go_wp2
  go_ret
  refine ⟨some ⟨g,0,none⟩,cap,rfl,RdK.of_holds hS.holds hS.lt1,(fun e=>by cases e),?_,?_⟩
  ·intro g' off' e
   injection e with e
   injection e with e1
   omega
  ·exact hb.trans ⟨hS.os,hS.tape,hS.output,hS.size,fun i hi=>hS.block i (Nat.lt_of_lt_of_le hi hb.size) (by omega)⟩
end Go.Proofs.YtlkmagmdhopcjaaGreat
