/- Texts that the law leans on. -/
import Derived.Test.YtlkmagmdhopcjaaGreatMOpenK
import Derived.Test.YtlkmagmdhopcjaaGreatMCopyK
namespace Go.Proofs.YtlkmagmdhopcjaaGreat
open Go.RowKit Go.Sort Go.Lib
set_option maxRecDepth 100000
set_option maxHeartbeats 2000000 in
theorem Grow0_any (N:Nat) (w:World) (h0:0 < N) (hN:N≤1000000) :
 Calls Tryz.prog 220 #[.slice none 0 0,.int .i64 N] w fun e w'=>∃ v,e=.returned v∧w'.ownsRow w.heap.size 3 1 v 0 []∧Below w.heap.size w w':=by
 obtain ⟨j0,hj0,hy0,hy1,hy2⟩:=info_parts qdu
 have hrun:=Lib.run_append_nil_zeros (P:=Tryz.prog) w 26 3 26 3 j0 (.int .i64 0) .i64 .i64 Tryz.underlying26 Tryz.underlying3 hj0 hy0 N h0 (by rw [hy1];decide) (by omega) (by rw [hy2];omega)
 have e1:decide ((N:Int) < 0)=false:=decide_eq_false (by omega)
 have e2:decide (0 < (N:Int))=true:=decide_eq_true (by omega)
 obtain ⟨G,hG⟩:∃ G,grownCap w N 0 3 = G:=⟨_,rfl⟩
 have hge:N≤G:=by rw [←hG];exact grownCap_ge w N 0 3
 have hle:G≤maxLen:=by rw [←hG];exact grownCap_le_maxLen w N 0 3 (by unfold maxLen;omega)
 rw [hG] at hrun
 obtain ⟨ZC,hZC⟩:∃ Z,Builtin.zeroCells (Value.int .i64 0).cells N ++ Builtin.zeroCells (Value.int .i64 0).cells (G - N)=Z:=⟨_,rfl⟩
 have hzs:ZC.size=G * 1:=by
  rw [←hZC,Array.size_append,size_zeroCells,size_zeroCells]
  simp [Value.cells]
  omega
 rw [hZC] at hrun
 have HO:Hid ((w.drew.alloc (.cells ZC 3)).ownsRow w.heap.size 3 1 (.slice (some ⟨w.heap.size,0,none⟩) 0 G) 0 []):=hI (World.ownsRow_made w.drew ZC G (Nat.le_refl _) hle hzs)
 have HB:Hid (Below w.heap.size w (w.drew.alloc (.cells ZC 3))):=hI ((Below.refl _ w).drew.alloc (Nat.le_refl _) _)
 obtain ⟨w1,hw1⟩:∃ W,W=w.drew.alloc (.cells ZC 3):=⟨_,rfl⟩
 rw [←hw1] at HO HB hrun
 clear hw1 hG hZC hzs hle
 go_enter Tryz.func220,Tryz.ntmps220
 go_wp2_with (at_builtin;refine Lib.wpList_append_run _ rfl _ _ _ _ rfl _ _ rfl rfl _ _ hrun ?_)
 go_ret
 exact ⟨_,rfl,HO.out,HB.out⟩
def catM (m:Array (RW Int)) (i:Nat):List Int:=(m.toList.take i).flatMap fun x=>x.z.toList
theorem qne (m:Array (RW Int)) {i:Nat} (h:i < m.size):catM m (i + 1)=catM m i ++ m[i]!.z.toList:=by
 unfold catM
 rw [List.take_add_one,List.getElem?_eq_getElem (by simpa using h),getElem!_pos m i h,List.flatMap_append]
 simp
theorem qlf (m:Array (RW Int)) {n:Nat} (h:∀ i,i < m.size→m[i]!.z.size=n):∀ i,i≤m.size→(catM m i).length=i * n:=by
 intro i
 induction i with
 | zero=>intro _;simp [catM]
 | succ i ih =>
   intro hi
   rw [qne m (by omega),List.length_append,ih (by omega),Nat.succ_mul]
   simp [h i (by omega)]
theorem catM_at (m:Array (RW Int)) {n:Nat} (h:∀ i,i < m.size→m[i]!.z.size=n):∀ k,k≤m.size→∀ i j,i < k→j < n→(catM m k)[i * n + j]?=some m[i]!.z[j]!:=by
 intro k
 induction k with
 | zero=>intro _ i j hi;omega
 | succ k ih =>
   intro hk i j hi hj
   rw [qne m (by omega)]
   have hl:=qlf m h k (by omega)
   rcases Nat.lt_or_ge i k with hik | hik
   ·have hle:(i + 1) * n≤k * n:=Nat.mul_le_mul_right n hik
    rw [Nat.succ_mul] at hle
    rw [List.getElem?_append_left (by omega)]
    exact ih (by omega) i j hik hj
   ·obtain rfl:i=k:=by omega
    rw [List.getElem?_append_right (by omega),hl,Nat.add_sub_cancel_left]
    have hz:=h i (by omega)
    rw [Array.getElem?_toList,Array.getElem?_eq_getElem (by omega),getElem!_pos _ j (by omega)]
set_option maxHeartbeats 4000000 in
theorem qys (A:Option Addr) (c n:Nat) (m:Array (RW Int)) (w:World) (h:RdMM w ⟨A,c,m⟩) (hn:∀ i,i < m.size→m[i]!.z.size=n) (h0:0 < n) (hn9:n≤9) (hm:0 < m.size) (hm9:m.size≤9) :
 Calls Tryz.prog 164 #[.slice A m.size c] w fun e w'=>∃ v,e=.returned v∧w'.ownsRow w.heap.size 3 1 v (catM m m.size).length ((catM m m.size).map (Value.int .i64))∧Below w.heap.size w w':=by
 obtain ⟨j0,hj0,hy0,hy1,hy2⟩:=info_parts qdu
 have HR:Hid (RdK encW 1 w.heap.size w A m):=h.1.rd
 have HJ:Hid (∀ i,i < m.size→RdJ w m[i]!):=h.2
 have HL:=hI (qlf m hn)
 have HN:=hI hn
 have HS:=hI (fun (i:Nat) (hi:i < m.size)=>qne m hi)
 clear h hn
 go_enter Tryz.func164,Tryz.ntmps164
 go_wp2
 go_loop [3,11] (fun sz i=>∃ k:Nat,i=.int .i64 k∧k≤m.size∧sz=.int .i64 ((k * n:Nat):Int)) (fun _ i=>m.size - (intOf i).toNat)
 case atStart=>exact ⟨0,rfl,Nat.zero_le _,by simp⟩
 case round =>
  obtain ⟨k,rfl,hk,rfl⟩:=hrel
  have hkn:k * n≤81:=Nat.le_trans (Nat.mul_le_mul (Nat.le_trans hk hm9) hn9) (by decide)
  by_cases hlt:k < m.size
  ·have kz:(k:Int) < (m.size:Int):=by omega
   obtain ⟨b,off,rfl,hbl,f⟩:=HR.out.at_ (i:=k) hlt
   have e0:=f 0 (by omega)
   have hs:(k + 1) * n=k * n + n:=Nat.succ_mul k n
   obtain ⟨p,hp⟩:∃ p,k * n=p:=⟨_,rfl⟩
   rw [hp] at hkn hs ⊢
   have hz:=HN.out k hlt
   simp only [Nat.add_zero,Nat.mul_one,encW,RW.v,List.getElem!_cons_zero,hz] at e0
   have e2:decide ((p:Int) + (n:Int) < 0)=false:=decide_eq_false (by omega)
   go_wp2
   go_round
   case rel=>exact ⟨k + 1,by go_num,by omega,by rw [hs];go_num⟩
   case measure=>simp [intOf];omega
  ·have hlt':decide ((k:Int) < (m.size:Int))=false:=decide_eq_false (by omega)
   obtain rfl:k=m.size:=by omega
   obtain ⟨N,hNe⟩:∃ N,m.size * n=N:=⟨_,rfl⟩
   have hN0:0 < N:=by rw [←hNe];exact Nat.mul_pos hm h0
   rw [hNe] at hkn ⊢
   have HG:=hI (Grow0_any N w hN0 (by omega))
   clear hNe
   go_wp2_with (go_at_call 220;refine HG.out.mono ?_;rintro _ w1 ⟨v0,rfl,hown,hb⟩;have HO:=hI hown;have HB1:=hI hb;clear hown hb)
   go_loopw [6,27] (fun v i wr=>∃ (k:Nat),i=.int .i64 k∧k≤m.size∧wr.ownsRow w.heap.size 3 1 v (catM m k).length ((catM m k).map (Value.int .i64))∧Hid (Below w.heap.size w wr)) (fun _ i _=>m.size - (intOf i).toNat)
   case atStart=>exact ⟨0,rfl,Nat.zero_le _,by simpa [catM] using HO.out,HB1⟩
   case round =>
    obtain ⟨k,rfl,hk,hown,HB⟩:=hrel
    have hl:=HL.out k hk
    have hkn2:k * n≤81:=Nat.le_trans (Nat.mul_le_mul (Nat.le_trans hk hm9) hn9) (by decide)
    have hBs:=HB.out.size
    by_cases hlt:k < m.size
    ·have kz:(k:Int) < (m.size:Int):=by omega
     obtain ⟨b,off,rfl,hbl,f⟩:=(HR.out.below HB.out).at_ (i:=k) hlt
     have e0:=f 0 (by omega)
     have HJk:=hI ((HJ.out k hlt).rd.below HB.out)
     have hz:=HN.out k hlt
     have HSk:=hI (HS.out k hlt)
     obtain ⟨u,hu⟩:∃ u,m[k]! = u:=⟨_,rfl⟩
     rw [hu] at e0 HJk hz HSk
     clear hu f
     simp only [Nat.add_zero,Nat.mul_one,encW,RW.v,List.getElem!_cons_zero,hz] at e0
     obtain ⟨b2,o2,hA2,hb2,f2⟩:=HJk.out (by omega)
     rw [hA2] at e0
     obtain ⟨x,hx⟩:∃ x,catM m k=x:=⟨_,rfl⟩
     rw [hx] at hown HSk hl
     clear hx
     go_wp2_with (at_builtin;refine wpList_append_own _ rfl _ _ 26 rfl w.heap.size 3 j0 (.int .i64 0) 1 8 Tryz.underlying26 hj0 hy0 hy1 hy2 rfl (by decide) _ _ _ rfl hown ⟨b2,o2,none⟩ n u.c (u.z.toList.map (Value.int .i64)) rfl (by simp [hz]) (by
      intro j v hj
      rw [List.getElem?_map] at hj
      rcases Nat.lt_or_ge j u.z.size with h | h
      ·rw [Addr.add_lit,f2 j h]
       rw [Array.getElem?_toList,Array.getElem?_eq_getElem h] at hj
       rw [getElem!_pos u.z j h]
       simpa using hj
      ·rw [Array.getElem?_toList,Array.getElem?_eq_none h] at hj
       cases hj)
                   (by intro v hv;simp at hv;obtain ⟨_,_,rfl⟩:=hv;rfl) (by unfold maxLen;omega) (by omega) (by omega) ?_;intro v' w3 hown3 hgrow _)
     go_roundw
     case rel =>
      refine ⟨k + 1,by go_num,by omega,?_,hI (HB.out.grown hgrow hBs (qmr hown))⟩
      have e:u.z.toList.length=n:=by simpa using hz
      rw [HSk.out,List.length_append,List.map_append,e]
      exact hown3
     case measure=>simp [intOf];omega
    ·have hlt':decide ((k:Int) < (m.size:Int))=false:=decide_eq_false (by omega)
     obtain rfl:k=m.size:=by omega
     go_wp2
     go_ret
     exact ⟨_,rfl,hown,HB.out⟩
set_option maxHeartbeats 1000000 in
theorem qyt (A:Option Addr) (c n:Nat) (m:Array (RW Int)) (w:World) (h:RdMM w ⟨A,c,m⟩) (hn:∀ i,i < m.size→m[i]!.z.size=n) (h0:0 < n) (hn9:n≤9) (hm:m.size=n) :
 Calls Tryz.prog 80 #[.slice A m.size c,.int .i64 n] w fun e w'=>∃ (v:Value) (b:Nat),e=.returned v∧w.heap.size≤b∧(∃ (cap:Nat) (cur:Array Value),w'.heap[b]?=some (.cells cur 3 (0,0))∧n * n≤cap∧cur.size=cap∧cur.toList.take (n * n)=(catM m m.size).map (Value.int .i64))∧w'.ownsRow (b + 1) 26 1 v n ((List.range n).map fun i=>.slice (some ⟨b,0 + i * n,none⟩) n n)∧Below w.heap.size w w':=by
 have HC:=hI (qys A c n m w h hn h0 hn9 (by omega) (by omega))
 have hcl:=qlf m hn m.size (Nat.le_refl _)
 generalize catM m m.size=L at HC hcl ⊢
 rw [hm] at hcl
 have h81:n * n≤9 * 9:=Nat.mul_le_mul hn9 hn9
 have hpos:0 < n * n:=Nat.mul_pos h0 h0
 obtain ⟨N,hN⟩:∃ N,n * n=N:=⟨_,rfl⟩
 have HCut:Hid (∀ b cap W,N≤cap→cap≤maxLen→Calls Tryz.prog 163 #[.slice (some ⟨b,0,none⟩) N cap,.int .i64 n] W fun e w'=>∃ v,e=.returned v∧w'.ownsRow W.heap.size 26 1 v n ((List.range n).map fun i=>.slice (some ⟨b,0 + i * n,none⟩) n n)∧Below W.heap.size W w'):=fun b cap W h1 h2=>by
  rw [←hN]
  exact cut_any b 0 cap n W (by omega) (by omega) h2
 rw [hN] at h81 hcl hpos ⊢
 clear h hn hN hm
 go_enter Tryz.func80,Tryz.ntmps80
 go_wp2_with fail
 refine HC.out.mono ?_
 rintro _ w1 ⟨v,rfl,hown,hb⟩
 obtain ⟨hlen,⟨rfl,h00⟩ | ⟨g,cap,cur,rfl,hg,hh,hnc,hcm,hcs,htk⟩⟩:=hown
 ·omega
 rw [hcl] at hnc htk ⊢
 have HH:=hI hh
 have HB:=hI hb
 rw [Nat.mul_one] at htk
 have HT:=hI htk
 have hgl:g < w1.heap.size:=(Array.getElem?_eq_some_iff.1 hh).1
 have HC2:=hI (HCut.out g cap w1 hnc hcm)
 have HCS:Hid (cur.size=cap):=(by simpa using hcs:cur.size=cap)
 have HNC:=hI hnc
 have HG:=hI hg
 have HGL:=hI hgl
 clear hh hb htk hcm hcs hlen hnc hg hgl HCut
 go_wp2_with fail
 refine HC2.out.mono ?_
 rintro _ w2 ⟨v,rfl,hown,hb⟩
 have HO:=hI hown
 have HB2:=hI hb
 clear hown hb
 go_wp2
 go_ret
 exact ⟨v,g,rfl,HG.out,⟨cap,cur,(HB2.out.block g HGL.out).trans HH.out,HNC.out,HCS.out,HT.out⟩,qdh HO.out HGL.out,qaa HB.out HB2.out⟩
end Go.Proofs.YtlkmagmdhopcjaaGreat
