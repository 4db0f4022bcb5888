/- Texts that the law leans on. -/
import Derived.Test.YtlkmagmdhopcjaaGreatMDelN
import Derived.Test.YtlkmagmdhopcjaaGreatMCopyK
namespace Go.Proofs.YtlkmagmdhopcjaaGreat
open Go.RowKit Go.Sort Go.Lib
set_option maxRecDepth 100000
def cmpI (a b:Int):Int:=if a < b then -1 else if b < a then 1 else 0
theorem cmpI_lt (a b:Int):decide (cmpI a b < 0)=decide (a < b):=by unfold cmpI;split <;> (try split) <;> simp <;> omega
theorem cmpI_eq (a b:Int):(cmpI a b == 0)=decide (a=b):=by
 unfold cmpI
 split
 ·simp;omega
 ·split <;> simp <;> omega
theorem qwj (x:EN) (n:Int) (w:World) :
 Calls Tryz.prog 252 #[.agg (encE x).toArray,.int .i64 n] w fun e w'=>e=.returned (.int .i64 (cmpI x.id n))∧Below w.heap.size w w':=by
 have HB:Hid (∀ o,Below w.heap.size w (w.alloc o)):=hI (fun o=>bel1 w o)
 have HC:=hI (fun W=>Tryz.cmp_Compare_int x.id n W)
 simp only [encE]
 go_enter Tryz.func252,Tryz.ntmps252
 go_wp2_with fail
 refine (HC.out _).mono ?_
 rintro e w1 ⟨rfl,rfl⟩
 go_wp2
 go_ret
 refine ⟨qan ?_,HB.out _⟩
 unfold cmpI
 rfl
def LowB (d:Array EN) (n:Int) (k:Nat):Prop:=k≤d.size∧(∀ j,j < k→d[j]!.id < n)∧∀ j,k≤j→j < d.size→n≤d[j]!.id
set_option maxHeartbeats 8000000 in
theorem bsN_any (A:Option Addr) (c:Nat) (d:Array EN) (n:Int) (w:World) (h:RdK encE 10 w.heap.size w A d) (hs:d.size≤1000000) (hup:∀ i j,i < j→j < d.size→d[i]!.id < d[j]!.id) :
 Calls Tryz.prog 251 #[.slice A d.size c,.int .i64 n,.func (.func 252) #[] #[]] w fun e w'=>(∃ k:Nat,e=.returned (.tuple #[.int .i64 k,.bool (decide (k < d.size∧d[k]!.id=n))])∧LowB d n k)∧Below w.heap.size w w':=by
 have HR:=hI h
 have HU:=hI hup
 clear h hup
 go_enter Tryz.func251,Tryz.ntmps251
 go_wp2
 go_loopg [9,10] d.size (fun g s9 s10 wr=>∃ lo hi:Nat,s9=.int .i64 lo∧s10=.int .i64 hi∧lo≤hi∧hi≤d.size∧hi - lo≤g∧Hid (Below w.heap.size w wr)∧Hid ((∀ t,t < lo→d[t]!.id < n)∧(∀ t,hi≤t→t < d.size→n≤d[t]!.id)))
 case atStart=>exact ⟨0,d.size,rfl,rfl,Nat.zero_le _,Nat.le_refl _,by omega,hI (Below.refl _ _),hI ⟨fun t ht=>absurd ht (Nat.not_lt_zero _),fun t h1 h2=>by omega⟩⟩
 case round =>
  obtain ⟨lo,hi,rfl,rfl,hlh,hin,hg,HB,HI⟩:=hrel
  by_cases hlt:lo < hi
  ·obtain ⟨b,off,rfl,hbl,f⟩:=(HR.out.below HB.out).at_ (i:=(lo + hi) / 2) (by omega)
   have e0:=f 0 (by omega)
   have e1:=f 1 (by omega)
   have e2:=f 2 (by omega)
   have e3:=f 3 (by omega)
   have e4:=f 4 (by omega)
   have e5:=f 5 (by omega)
   have e6:=f 6 (by omega)
   have e7:=f 7 (by omega)
   have e8:=f 8 (by omega)
   have e9:=f 9 (by omega)
   have HC:=hI (fun W=>qwj d[(lo + hi) / 2]! n W)
   have HM:Hid (d[(lo + hi) / 2]!.id=d[(lo + hi) / 2]!.id):=rfl
   obtain ⟨x,hx⟩:∃ x,d[(lo + hi) / 2]! = x:=⟨_,rfl⟩
   rw [hx] at e0 e1 e2 e3 e4 e5 e6 e7 e8 e9 HC
   have HX:=hI hx
   clear f hx HM
   simp only [Nat.add_zero,encE,List.getElem!_cons_zero,List.getElem!_cons_succ] at e0 e1 e2 e3 e4 e5 e6 e7 e8 e9 HC
   have hcl:=cmpI_lt x.id n
   generalize cmpI x.id n=cv at HC hcl
   by_cases hxn:x.id < n
   ·have hv:decide (cv < 0)=true:=by rw [hcl];simpa using hxn
    have HXN:=hI hxn
    clear hcl hxn
    go_wp2_with (go_at_call 252;refine (HC.out _).mono ?_;rintro e w' ⟨rfl,hb'⟩)
    go_roundg (hi - ((lo + hi) / 2 + 1))
    case measure=>omega
    case rel =>
     refine ⟨(lo + hi) / 2 + 1,hi,by rw [show ((lo:Int) + (hi:Int)) / 2 + 1=(((lo + hi) / 2 + 1:Nat):Int) by omega],rfl,by omega,hin,Nat.le_refl _,hI (qaa HB.out hb'),hI ⟨fun t ht=>?_,HI.out.2⟩⟩
     rcases Nat.lt_or_ge t ((lo + hi) / 2) with h' | h'
     ·have h1:=HU.out t ((lo + hi) / 2) h' (by omega)
      rw [HX.out] at h1
      have h2:=HXN.out
      omega
     ·obtain rfl:t=(lo + hi) / 2:=by omega
      rw [HX.out];exact HXN.out
   ·have hv:decide (cv < 0)=false:=by rw [hcl];simpa using hxn
    have HXN:=hI hxn
    clear hcl hxn
    go_wp2_with (go_at_call 252;refine (HC.out _).mono ?_;rintro e w' ⟨rfl,hb'⟩)
    go_roundg ((lo + hi) / 2 - lo)
    case measure=>omega
    case rel =>
     refine ⟨lo,(lo + hi) / 2,rfl,by rw [show ((lo:Int) + (hi:Int)) / 2=(((lo + hi) / 2:Nat):Int) by omega],by omega,by omega,Nat.le_refl _,hI (qaa HB.out hb'),hI ⟨HI.out.1,fun t ht htn=>?_⟩⟩
     have h2:=HXN.out
     rcases Nat.lt_or_ge ((lo + hi) / 2) t with h' | h'
     ·have h1:=HU.out ((lo + hi) / 2) t h' htn
      rw [HX.out] at h1
      omega
     ·obtain rfl:t=(lo + hi) / 2:=by omega
      rw [HX.out];omega
  ·obtain rfl:lo=hi:=by omega
   have HL:Hid (LowB d n lo):=⟨hin,HI.out.1,HI.out.2⟩
   by_cases hk:lo < d.size
   ·have kz:(lo:Int) < (d.size:Int):=by omega
    obtain ⟨b,off,rfl,hbl,f⟩:=(HR.out.below HB.out).at_ (i:=lo) (by omega)
    have e0:=f 0 (by omega)
    have e1:=f 1 (by omega)
    have e2:=f 2 (by omega)
    have e3:=f 3 (by omega)
    have e4:=f 4 (by omega)
    have e5:=f 5 (by omega)
    have e6:=f 6 (by omega)
    have e7:=f 7 (by omega)
    have e8:=f 8 (by omega)
    have e9:=f 9 (by omega)
    have HC:=hI (fun W=>qwj d[lo]! n W)
    have HV:Hid (decide (lo < d.size∧d[lo]!.id=n)=decide (d[lo]!.id=n)):=by show _=_;simp [hk]
    obtain ⟨x,hx⟩:∃ x,d[lo]! = x:=⟨_,rfl⟩
    rw [hx] at e0 e1 e2 e3 e4 e5 e6 e7 e8 e9 HC
    have HX:=hI hx
    clear f hx
    simp only [Nat.add_zero,encE,List.getElem!_cons_zero,List.getElem!_cons_succ] at e0 e1 e2 e3 e4 e5 e6 e7 e8 e9 HC
    have hce:=cmpI_eq x.id n
    have HCE:=hI hce
    clear hce
    generalize cmpI x.id n=cv at HC HCE
    go_wp2_with (go_at_call 252;refine (HC.out _).mono ?_;rintro e w' ⟨rfl,hb'⟩)
    go_ret2
    refine ⟨⟨lo,?_,HL.out⟩,qaa HB.out hb'⟩
    show Ending.returned (.tuple #[.int .i64 lo,.bool (cv == 0)])=_
    rw [HV.out,HX.out,HCE.out]
   ·have hk':decide ((lo:Int) < (d.size:Int))=false:=by simp;omega
    have HV:Hid (decide (lo < d.size∧d[lo]!.id=n)=false):=by show _=_;simp [hk]
    go_wp2
    go_ret2
    exact ⟨⟨lo,by rw [HV.out];rfl,HL.out⟩,HB.out⟩
def qhq (d:Array EN) (i:Nat) (x:EN):Array EN:=(d.toList.take i ++ x :: d.toList.drop i).toArray
theorem qhy {d:Array EN} {i:Nat} {x:EN} (hi:i≤d.size):(qhq d i x).size=d.size + 1:=by unfold qhq;simp;omega
theorem qkl (d:Array EN) (i:Nat) (x:EN):(flatK encE 10 (qhq d i x)).toList=(flatK encE 10 d).toList.take (i * 10) ++ (encE x ++ (flatK encE 10 d).toList.drop (i * 10)):=by
 rw [qcm qbz,qcm qbz]
 unfold qhq
 have key:∀ (l:List EN) (i:Nat),(l.take i).flatMap encE=(l.flatMap encE).take (i * 10)∧(l.drop i).flatMap encE=(l.flatMap encE).drop (i * 10):=by
  intro l
  induction l with
  | nil=>intro i;simp
  | cons y r ih =>
    intro i
    cases i with
    | zero=>simp
    | succ i =>
      have hl:(encE y).length=10:=qbz y
      have e1:(i + 1) * 10=10 + i * 10:=by omega
      rw [List.take_succ_cons,List.drop_succ_cons,List.flatMap_cons,List.flatMap_cons,e1,(ih i).1,(ih i).2]
      constructor
      ·rw [show (encE y ++ r.flatMap encE).take (10 + i * 10)=encE y ++ (r.flatMap encE).take (i * 10) from by rw [List.take_append,List.take_of_length_le (by rw [hl];omega),hl,Nat.add_sub_cancel_left]]
      ·rw [show (encE y ++ r.flatMap encE).drop (10 + i * 10)=(r.flatMap encE).drop (i * 10) from by rw [List.drop_append,List.drop_of_length_le (by rw [hl];omega),hl,Nat.add_sub_cancel_left,List.nil_append]]
 rw [←(key d.toList i).1,←(key d.toList i).2]
 simp
theorem own_blk (A:Option Addr) (n c c':Nat):(Value.slice A n c).ownBlock=(Value.slice A n c').ownBlock:=by cases A <;> rfl
theorem qwk (d:Array EN):∀ u ∈ (flatK encE 10 d).toList,u.oneCell'=true:=qvg qrm qbz
set_option maxHeartbeats 16000000 in
theorem insN_end (B:Nat) (v:Value) (d:Array EN) (x:EN) (vb:Nat) (w:World) (hown:w.ownsRow B 58 10 v d.size (flatK encE 10 d).toList) (hvb:w.heap[vb]?=some (.cells (encE x).toArray 58 (0,0))) (hB:B≤w.heap.size) (hs:d.size≤1000) :
 Calls Tryz.prog 254 #[v,.int .i64 d.size,.slice (some ⟨vb,0,none⟩) 1 1] w fun e w'=>∃ v',e=.returned v'∧w'.ownsRow B 58 10 v' (qhq d d.size x).size (flatK encE 10 (qhq d d.size x)).toList∧w.grownBy w' v.ownBlock:=by
 obtain ⟨i0,hi0,hz0,hz1,hz2⟩:=info_parts qkz
 have HF:Hid ((flatK encE 10 (qhq d d.size x)).toList=(flatK encE 10 d).toList ++ encE x):=by
  show _=_
  rw [qkl,List.take_of_length_le (by simp),List.drop_of_length_le (by simp),List.append_nil]
 have HSZ:=hI (qhy (d:=d) (x:=x) (Nat.le_refl _))
 have hnews:∀ j u,(encE x)[j]?=some u→w.cell? ((⟨vb,0,none⟩:Addr).add j)=some u:=fun j u hj=>by
  rw [Addr.add_lit,Nat.zero_add,blkC hvb]
  rw [←hj];simp
 obtain ⟨Av,cv,rfl,hA,hn0⟩:=qaw hown
 have HOW:=hI hown
 have hcap:(d.size:Int)≤(cv:Int):=by
  obtain ⟨_,⟨h1,h2⟩ | ⟨g',cap',cur,hv',_,_,hnc,_⟩⟩:=hown
  ·injection h1 with _ _ hc;omega
  ·injection hv' with _ _ hc;omega
 have hx:=hI (qrm x)
 go_enter Tryz.func254,Tryz.ntmps254
 go_wp2_with (at_builtin;refine wpList_append_own _ rfl _ _ 22 rfl B 58 i0 (.agg #[.int .i64 0,.int .i64 0,.int .i64 0,.int .i64 0,.int .i64 0,.int .i64 0,.int .i64 0,.int .i64 0,.string ⟨#[]⟩,.slice none 0 0]) 10 104 Tryz.underlying22 hi0 hz0 hz1 hz2 rfl (by decide) (.slice Av d.size cv) _ _ rfl HOW.out ⟨vb,0,none⟩ 1 1 (encE x) rfl rfl hnews hx.out (by unfold maxLen;omega) (by omega) hB ?_;intro v' w4 hown' hgrow _)
 all_goals
  go_ret
  exact ⟨v',rfl,(by rw [HSZ.out,HF.out];exact hown'),by first | exact hgrow | (rw [own_blk Av d.size d.size cv];exact hgrow)⟩
theorem qlg (d:Array EN):(flatK encE 10 d).toList.length=d.size * 10:=by simp
set_option maxHeartbeats 16000000 in
theorem insN_room (B:Nat) (g cap i:Nat) (cur:List Value) (d:Array EN) (x:EN) (vb:Nat) (w:World) (hg:w.heap[g]?=some (.cells cur.toArray 58 (0,0))) (hBg:B≤g) (hcs:cur.length=cap * 10) (hcap:cap≤maxLen) (htk:cur.take (d.size * 10)=(flatK encE 10 d).toList) (hi:i < d.size) (hroom:d.size + 1≤cap)
 (hvb:w.heap[vb]?=some (.cells (encE x).toArray 58 (0,0))) (hne:vb≠g) (hs:d.size≤1000) :
 Calls Tryz.prog 254 #[.slice (some ⟨g,0,none⟩) d.size cap,.int .i64 i,.slice (some ⟨vb,0,none⟩) 1 1] w fun e w'=>∃ v',e=.returned v'∧w'.ownsRow B 58 10 v' (qhq d i x).size (flatK encE 10 (qhq d i x)).toList∧Below B w w':=by
 have hsz:(Tryz.prog.info? 58).map (·.size)=some 10:=by
  obtain ⟨i0,hi0,_,hz1,_⟩:=info_parts qkz
  rw [hi0];simp [hz1]
 have hov:∀ W:World,W.heap[vb]?=w.heap[vb]?→W.heap[g]?=w.heap[g]?→∀ lb cb off,(callFunc 272 #[.slice (some ⟨vb,0,none⟩) 1 1,.slice (some ⟨g,off,none⟩) lb cb]).run Tryz.prog W=.ok (.value (.bool false)) W:=fun W h1 h2 lb cb off=>by
  rw [run_callFunc_extern Tryz.func272 (by kernel_rfl) (by kernel_rfl) (by kernel_rfl) (e:=Extern.SlicesOverlaps.overlaps #[22,22] #[4]) (by kernel_rfl),
   Lib.run_overlaps_apart W 22 4 58 Tryz.underlying22 10 Tryz.sizeOf58 ⟨vb,0,none⟩ ⟨g,off,none⟩ 1 1 lb cb hne 58 58 10 (cap * 10) (by simp [World.shape?,h1,hvb,encE]) (by simp [World.shape?,h2,hg,hcs]) (by omega) (by simp [World.frozen?,h1,hvb]) (by simp [World.frozen?,h1,hvb])]
  rfl
 have hx:=hI (qrm x)
 have hfl:=qlg d
 obtain ⟨X,hX⟩:∃ X,X=(flatK encE 10 d).toList.drop (i * 10):=⟨_,rfl⟩
 have hXl:X.length=(d.size - i) * 10:=by rw [hX,List.length_drop,hfl,Nat.sub_mul]
 have hX1:∀ u ∈ X,u.oneCell'=true:=fun u hu=>qwk d u (by rw [hX] at hu;exact List.mem_of_mem_drop hu)
 have hcu:cur=(flatK encE 10 d).toList ++ cur.drop (d.size * 10):=by rw [←htk];exact (List.take_append_drop _ _).symm
 have hsrc1:∀ W:World,W.heap[g]?=w.heap[g]?→∀ j v,X[j]?=some v→W.cell? ((⟨g,i * 10,none⟩:Addr).add j)=some v:=fun W hW j v hj=>by
  have hjl:j < X.length:=by
   rcases Nat.lt_or_ge j X.length with h | h
   ·exact h
   ·rw [List.getElem?_eq_none h] at hj;cases hj
  rw [Addr.add_lit,cell_of_row W _ _ _ _ (0,0) (hW.trans hg)]
  rw [hX,List.getElem?_drop] at hj
  rw [←hj]
  have h3:i * 10 + j < (flatK encE 10 d).toList.length:=by rw [hfl];rw [hXl,Nat.sub_mul] at hjl;omega
  rw [List.getElem?_toArray,hcu,List.getElem?_append_left h3]
 have hsrc2:∀ W:World,W.heap[vb]?=w.heap[vb]?→∀ j v,(encE x)[j]?=some v→W.cell? ((⟨vb,0,none⟩:Addr).add j)=some v:=fun W hW j v hj=>by
  rw [Addr.add_lit,Nat.zero_add,cell_of_row W _ _ _ _ (0,0) (hW.trans hvb),List.getElem?_toArray]
  exact hj
 have HG:=hI hg
 have HV:=hI hvb
 have HF:=hI (qkl d i x)
 have HSI:=hI (qhy (d:=d) (x:=x) (i:=i) (by omega))
 have hls:=lay_shift (L:=cur) (E:=encE x) (X:=X) (a:=i * 10) (b:=10) (c:=(d.size - i) * 10) rfl hXl (by rw [hcs,Nat.sub_mul];omega)
 have e10:i * 10 + 10=(i + 1) * 10:=by omega
 rw [e10] at hls
 have HLS:=hI hls
 have hXI:=hI hX
 have HTK:=hI htk
 clear hls e10
 have hfit1:(i + 1) * 10 + X.length≤cur.length:=by rw [hXl,hcs,Nat.sub_mul];omega
 have hl1:=qjd hfit1
 have HL1:=hI hl1
 have HXl:=hI hXl
 have HX1:=hI hX1
 have HCS:=hI hcs
 have HN1:=hI hsrc1
 have HN2:=hI hsrc2
 have HO:=hI hov
 have HFI:=hI hfit1
 have hw1:IntKind.i64.wrap ((i:Int) + 1)=(i:Int) + 1:=by rw [IntKind.wrap_i64];omega
 have hb1:(0:Int)≤(i:Int) + 1:=by omega
 have htn:((i:Int) + 1).toNat=i + 1:=by omega
 have hb2:¬ (cap=i + 1):=by omega
 have hb4:¬ (cap=i):=by omega
 have hz2:¬ ((i:Int)=(d.size:Int)):=by omega
 have hov1:=hov w rfl rfl
 have h63:cap≤9223372036854775807:=by unfold maxLen at hcap;omega
 have hin:i≤d.size:=by omega
 have hb3:(i:Int)≤(d.size:Int) + 1:=by omega
 have hb5:i≤d.size + 1:=by omega
 clear hX hcu hsrc1 hsrc2 htk hXl hX1 hl1 hcs hfit1 hov hfl
 go_enter Tryz.func254,Tryz.ntmps254
 go_wp2_with (simp only [hov1])
 go_region_law (refine qjw rfl (.tmp 73) (.tmp 76) 22 22 rfl 10 58 Tryz.underlying22 hsz g ((i + 1) * 10) (d.size - i) (cap - (i + 1)) ⟨g,i * 10,none⟩ (d.size + 1 - i) (cap - i) (by simp [Act.eval,Act.put]) (by simp [Act.eval,Act.put]) cur 58 HG.out X (d.size - i) (by simp only [Nat.min_def];split <;> omega) HXl.out (HN1.out _ rfl) HFI.out HX1.out B w ⟨rfl,rfl,rfl,Nat.le_refl _,fun _ _=>rfl⟩ hBg ?_;intro w4 hg4 hb4 ho4)
 all_goals
  have HV4:=hI ((ho4.out vb hne).trans HV.out)
  go_wp2_with (refine qko rfl (.tmp 80) (.tmp 81) 22 22 rfl 10 58 Tryz.underlying22 hsz g (i * 10) (d.size + 1 - i) (cap - i) ⟨vb,0,none⟩ 1 1 (by rfl) (by rfl) (qhb cur ((i + 1) * 10) X) 58 hg4.out (encE x) 1 (by simp only [Nat.min_def];split <;> omega) rfl (HN2.out _ (ho4.out vb hne)) (by rw [HL1.out,HCS.out,qbz];omega) hx.out B w hb4.out hBg ?_;intro w5 hg5 hb5 _)
  go_ret
  refine ⟨_,rfl,?_,hb5.out⟩
  rw [HSI.out]
  refine ⟨by rw [qlg,HSI.out],Or.inr ⟨g,cap,_,rfl,hBg,hg5.out,hroom,hcap,?_,?_⟩⟩
  ·rw [List.size_toArray,qjd (by rw [HL1.out,HCS.out,qbz];omega),HL1.out];exact HCS.out
  ·rw [HLS.out,HF.out]
   have hl:(cur.take (i * 10) ++ (encE x ++ X)).length=(d.size + 1) * 10:=by
    rw [List.length_append,List.length_append,List.length_take,qbz,HXl.out,HCS.out,Nat.sub_mul];omega
   show (cur.take (i * 10) ++ (encE x ++ (X ++ cur.drop ((i + 1) * 10 + (d.size - i) * 10)))).take ((d.size + 1) * 10)=_
   rw [←List.append_assoc (encE x),←List.append_assoc (cur.take (i * 10)),List.take_append_of_le_length (by rw [hl];exact Nat.le_refl _),List.take_of_length_le (by rw [hl];exact Nat.le_refl _),hXI.out,←HTK.out,List.take_take,Nat.min_eq_left (Nat.mul_le_mul_right 10 hin)]
set_option maxHeartbeats 16000000 in
theorem insN_grow (B:Nat) (g i:Nat) (d:Array EN) (x:EN) (vb:Nat) (w:World) (hH:HoldsK encE 10 w g 0 d) (hgl:g < w.heap.size) (hB:B≤w.heap.size) (hi:i < d.size)
 (hvb:w.heap[vb]?=some (.cells (encE x).toArray 58 (0,0))) (hs:d.size≤1000) :
 Calls Tryz.prog 254 #[.slice (some ⟨g,0,none⟩) d.size d.size,.int .i64 i,.slice (some ⟨vb,0,none⟩) 1 1] w fun e w'=>∃ v',e=.returned v'∧w'.ownsRow B 58 10 v' (qhq d i x).size (flatK encE 10 (qhq d i x)).toList∧Below w.heap.size w w':=by
 obtain ⟨i0,hi0,hz0,hz1,hz2⟩:=info_parts qkz
 have hsz:(Tryz.prog.info? 58).map (·.size)=some 10:=by rw [hi0];simp [hz1]
 have hx:=hI (qrm x)
 have hfl:=qlg d
 have hvl:vb < w.heap.size:=blkL hvb
 obtain ⟨X,hX⟩:∃ X,X=(flatK encE 10 d).toList.drop (i * 10):=⟨_,rfl⟩
 obtain ⟨Y,hY⟩:∃ Y,Y=(flatK encE 10 d).toList.take (i * 10):=⟨_,rfl⟩
 have hXl:X.length=(d.size - i) * 10:=by rw [hX,List.length_drop,hfl,Nat.sub_mul]
 have hYl:Y.length=i * 10:=by rw [hY,List.length_take,hfl,Nat.min_eq_left (by omega)]
 have hX1:∀ u ∈ X,u.oneCell'=true:=fun u hu=>qwk d u (by rw [hX] at hu;exact List.mem_of_mem_drop hu)
 have hat:∀ t u,(flatK encE 10 d).toList[t]?=some u→w.cell? ⟨g,t,none⟩=some u:=fun t u ht=>by
  have htl:t < (flatK encE 10 d).size:=by
   rcases Nat.lt_or_ge t (flatK encE 10 d).size with h | h
   ·exact h
   ·rw [List.getElem?_eq_none (by simpa using h)] at ht;cases ht
  have:=(hH t htl).1
  rw [Nat.zero_add] at this
  rw [this,getElem!_pos _ t htl]
  rw [Array.getElem?_toList,Array.getElem?_eq_getElem htl] at ht
  exact ht
 have hold:(Builtin.firstCells i0.size i (.slice (some ⟨g,0,none⟩) i d.size)).run Tryz.prog w.drew=.ok Y.toArray w.drew:=by
  rw [hz1]
  exact run_firstCells_some (w:=w.drew) 10 i ⟨g,0,none⟩ i d.size Y hYl (fun j v hj=>by
   rw [Addr.add_lit,Nat.zero_add]
   rw [hY,List.getElem?_take] at hj
   split at hj
   ·exact hat j v hj
   ·cases hj)
 obtain ⟨G,hG⟩:∃ G,G=grownCap w (d.size + 1) d.size 58:=⟨_,rfl⟩
 have hGn:d.size + 1≤G:=by rw [hG];exact grownCap_ge w _ _ _
 have hGm:G≤maxLen:=by rw [hG];exact grownCap_le_maxLen w (d.size + 1) d.size 58 (by unfold maxLen;omega)
 obtain ⟨ROW,hROW⟩:∃ ROW:List Value,ROW=Y ++ (Builtin.zeroCells (Value.agg #[.int .i64 0,.int .i64 0,.int .i64 0,.int .i64 0,.int .i64 0,.int .i64 0,.int .i64 0,.int .i64 0,.string ⟨#[]⟩,.slice none 0 0]).cells (d.size + 1 - i)).toList ++ (Builtin.zeroCells (Value.agg #[.int .i64 0,.int .i64 0,.int .i64 0,.int .i64 0,.int .i64 0,.int .i64 0,.int .i64 0,.int .i64 0,.string ⟨#[]⟩,.slice none 0 0]).cells (G - (d.size + 1))).toList:=⟨_,rfl⟩
 have hkk:(d.size:Int) + 1 - (i:Int)=((d.size + 1 - i:Nat):Int):=by omega
 have hrz:∀ ty,(Builtin.append_ #[22,3] ty #[.slice (some ⟨g,0,none⟩) i d.size,.int .i64 ((d.size:Int) + 1 - (i:Int))]).run Tryz.prog w=.ok (.slice (some ⟨w.heap.size,0,none⟩) (d.size + 1) G) (w.drew.alloc (.cells ROW.toArray 58)):=fun ty=>by
  have hik:i + (d.size + 1 - i)=d.size + 1:=by omega
  have h:=Lib.run_append_grow_zeros w 22 3 ty 58 i0 _ .i64 .i64 Tryz.underlying22 Tryz.underlying3 hi0 hz0 (some ⟨g,0,none⟩) i d.size Y hold (d.size + 1 - i) (by omega) (by omega) (by omega) (by omega) (by rw [hz2];omega) (by rw [hz2,hik];exact growslice_fits (by omega) (by omega))
  rw [hik,←hG] at h
  have hrow:Y.toArray ++ Builtin.zeroCells (Value.agg #[.int .i64 0,.int .i64 0,.int .i64 0,.int .i64 0,.int .i64 0,.int .i64 0,.int .i64 0,.int .i64 0,.string ⟨#[]⟩,.slice none 0 0]).cells (d.size + 1 - i) ++ Builtin.zeroCells (Value.agg #[.int .i64 0,.int .i64 0,.int .i64 0,.int .i64 0,.int .i64 0,.int .i64 0,.int .i64 0,.int .i64 0,.string ⟨#[]⟩,.slice none 0 0]).cells (G - (d.size + 1))=ROW.toArray:=by
   rw [hROW]
   apply Array.ext'
   rw [Array.toList_append,Array.toList_append]
  rw [hrow] at h
  rw [hkk]
  exact h
 have hRl:ROW.length=G * 10:=by
  rw [hROW,List.length_append,List.length_append,hYl,qec,qec]
  show i * 10 + (d.size + 1 - i) * 10 + (G - (d.size + 1)) * 10=G * 10
  rw [Nat.sub_mul,Nat.sub_mul];omega
 have hRt:ROW.take (i * 10)=Y:=by rw [hROW,List.append_assoc,List.take_append_of_le_length (by rw [hYl];exact Nat.le_refl _),List.take_of_length_le (by rw [hYl];exact Nat.le_refl _)]
 obtain ⟨W1,hW1⟩:∃ W1,W1=w.drew.alloc (.cells ROW.toArray 58):=⟨_,rfl⟩
 rw [←hW1] at hrz
 have hN:W1.heap[w.heap.size]?=some (.cells ROW.toArray 58 (0,0)):=by rw [hW1];exact heap_alloc_new w.drew _
 have hO:∀ k,k < w.heap.size→W1.heap[k]?=w.heap[k]?:=fun k hk=>by rw [hW1];exact Below.heap_alloc w.drew _ k hk
 have hb1:Below w.heap.size w W1:=by rw [hW1];exact ((Below.refl _ _).drew).alloc (Nat.le_refl _) _
 have hsrc2:∀ W:World,W.heap[vb]?=W1.heap[vb]?→∀ j v,(encE x)[j]?=some v→W.cell? ((⟨vb,0,none⟩:Addr).add j)=some v:=fun W hW j v hj=>by
  rw [Addr.add_lit,Nat.zero_add,cell_of_row W _ _ _ _ (0,0) ((hW.trans (hO vb hvl)).trans hvb),List.getElem?_toArray]
  exact hj
 have hsrc1:∀ W:World,W.heap[g]?=W1.heap[g]?→∀ j v,X[j]?=some v→W.cell? ((⟨g,i * 10,none⟩:Addr).add j)=some v:=fun W hW j v hj=>by
  rw [Addr.add_lit]
  have e1:W.cell? ⟨g,i * 10 + j,none⟩=w.cell? ⟨g,i * 10 + j,none⟩:=by unfold World.cell?;simp only [hW.trans (hO g hgl)]
  rw [e1]
  exact hat _ _ (by rw [hX,List.getElem?_drop] at hj;exact hj)
 have HLS0:=lay_two (L:=ROW) (E:=encE x) (X:=X) (a:=i * 10) (b:=10) (c:=(d.size - i) * 10) rfl hXl (by rw [hRl,Nat.sub_mul];omega)
 rw [show i * 10 + 10=(i + 1) * 10 by omega] at HLS0
 have HLS:=hI HLS0
 have hl1:=qjd (L:=ROW) (off:=i * 10) (xs:=encE x) (by rw [hRl,qbz];omega)
 have HL1:=hI hl1
 have HXl:=hI hXl
 have HX1:=hI hX1
 have HYl:=hI hYl
 have HRl:=hI hRl
 have HRt:=hI hRt
 have HN0:=hI hN
 have HN1:=hI hsrc1
 have HN2:=hI hsrc2
 have HB1:=hI hb1
 have HF:=hI (qkl d i x)
 have HSI:=hI (qhy (d:=d) (x:=x) (i:=i) (by omega))
 have hXI:=hI hX
 have hYI:=hI hY
 have HRZ:=hI hrz
 have HGM:=hI hGm
 have hne:vb≠w.heap.size:=by omega
 have hneg:g≠w.heap.size:=by omega
 have hw1:IntKind.i64.wrap ((i:Int) + 1)=(i:Int) + 1:=by rw [IntKind.wrap_i64];omega
 have hz3:¬ ((i:Int)=(d.size:Int)):=by omega
 have htn:((i:Int) + 1).toNat=i + 1:=by omega
 have hb1':(0:Int)≤(i:Int) + 1:=by omega
 have hgi:¬ (G=i):=by omega
 have hgi1:¬ (G=i + 1):=by omega
 have hdi:¬ (d.size=i):=by omega
 have hin:i≤d.size:=by omega
 have hb3:(i:Int)≤(d.size:Int) + 1:=by omega
 have hb5:i≤d.size + 1:=by omega
 have h63:G≤9223372036854775807:=by unfold maxLen at hGm;omega
 clear HLS0 hl1 hXl hX1 hYl hRl hRt hN hsrc1 hsrc2 hb1 hX hY hrz hROW hold hat hfl hkk hG hO hGm hW1 hH hvb
 go_enter Tryz.func254,Tryz.ntmps254
 go_wp2_with (first
  | (at_builtin;refine qox _ rfl _ _ _ _ rfl _ _ rfl rfl _ _ (HRZ.out _) ?_;rintro w1 rfl)
  | (refine qko rfl (.tmp 43) (.tmp 44) 22 22 rfl 10 58 Tryz.underlying22 hsz w.heap.size (i * 10) (d.size + 1 - i) (G - i) ⟨vb,0,none⟩ 1 1 (by rfl) (by rfl) ROW 58 HN0.out (encE x) 1 (by simp only [Nat.min_def];split <;> omega) rfl (HN2.out _ rfl) (by rw [HRl.out,qbz];omega) hx.out w.heap.size w HB1.out (Nat.le_refl _) ?_;intro w4 hg4 hb4 ho4))
 go_region_law (refine qjw rfl (.tmp 50) (.tmp 53) 22 22 rfl 10 58 Tryz.underlying22 hsz w.heap.size ((i + 1) * 10) (d.size - i) (G - (i + 1)) ⟨g,i * 10,none⟩ (d.size - i) (d.size - i) (by simp [Act.eval,Act.put]) (by simp [Act.eval,Act.put]) (qhb ROW (i * 10) (encE x)) 58 hg4.out X (d.size - i) (by simp only [Nat.min_def];split <;> omega) HXl.out (HN1.out _ (ho4.out g hneg)) (by rw [HL1.out,HRl.out,HXl.out,Nat.sub_mul];omega) HX1.out w.heap.size w (by first | exact hb4.out | exact hb4.out.drew) (Nat.le_refl _) ?_;intro w5 hg5 hb5 _)
 all_goals
  go_wp2
  go_ret
  refine ⟨_,rfl,?_,hb5.out⟩
  rw [HSI.out]
  refine ⟨by rw [qlg,HSI.out],Or.inr ⟨w.heap.size,G,_,rfl,hB,hg5.out,hGn,HGM.out,?_,?_⟩⟩
  ·rw [List.size_toArray,qjd (by rw [HL1.out,HRl.out,HXl.out,Nat.sub_mul];omega),HL1.out];exact HRl.out
  ·rw [HLS.out,HF.out]
   have hl:(ROW.take (i * 10) ++ (encE x ++ X)).length=(d.size + 1) * 10:=by
    rw [List.length_append,List.length_append,HRt.out,qbz,HXl.out,HYl.out,Nat.sub_mul];omega
   show (ROW.take (i * 10) ++ (encE x ++ (X ++ ROW.drop ((i + 1) * 10 + (d.size - i) * 10)))).take ((d.size + 1) * 10)=_
   rw [←List.append_assoc (encE x),←List.append_assoc (ROW.take (i * 10)),List.take_append_of_le_length (by rw [hl];exact Nat.le_refl _),List.take_of_length_le (by rw [hl];exact Nat.le_refl _),hXI.out,HRt.out,hYI.out]
end Go.Proofs.YtlkmagmdhopcjaaGreat
namespace Go.Proofs.YtlkmagmdhopcjaaGreat
open Go.RowKit Go.Sort Go.Lib
set_option maxRecDepth 100000
theorem qop {α:Type} [Inhabited α] (d:Array α) (k:Nat) (h:k < d.size):d.toList.drop k=d[k]! :: d.toList.drop (k + 1):=by
 rw [List.drop_eq_getElem_cons (by simpa using h),getElem!_pos d k h];rfl
def insL (e:EN):Bool→List EN→List EN
 | b,[]=>if b=true then [] else [e]
 | b,x :: r=>(if e.id≤x.id∧b=false then [e] else []) ++ ((if x.id=e.id then [] else [x]) ++ insL e (b || decide (e.id≤x.id)) r)
def putS (d:Array EN) (e:EN):Array EN:=(insL e false d.toList).toArray
def putC (d:Array EN) (e:EN):Int:=if (chkT d && qcp e)=true then (if 40 < (putS d e).size then 8 else 0) else 2
def putD (d:Array EN) (e:EN):Array EN:=if putC d e=0 then putS d e else #[]
theorem qhz {e:EN}:∀ (l1 l2:List EN),(∀ x ∈ l1,x.id < e.id)→insL e false (l1 ++ l2)=l1 ++ insL e false l2
 | [],_,_=>rfl
 | x :: r,l2,h=>by
   have hx:=h x (by simp)
   have ih:=qhz r l2 (fun y hy=>h y (by simp [hy]))
   rw [List.cons_append,insL,if_neg (by omega),if_neg (by omega),decide_eq_false (by omega),Bool.or_false,ih]
   rfl
theorem qnh {e:EN}:∀ (l:List EN),(∀ x ∈ l,x.id≠e.id)→insL e true l=l
 | [],_=>rfl
 | x :: r,h=>by
   have hx:=h x (by simp)
   have ih:=qnh r (fun y hy=>h y (by simp [hy]))
   rw [insL,if_neg (by simp),if_neg hx,Bool.true_or,ih]
   rfl
theorem qqi {d:Array EN} (h:chkT d=true):∀ i j,i < j→j < d.size→d[i]!.id < d[j]!.id:=by
 have ha:=(qct.1 h).2
 intro i j
 induction j with
 | zero=>intro hij;omega
 | succ j ih =>
   intro hij hj
   have h1:=ha (j + 1) hj
   unfold atT at h1
   rw [Bool.and_eq_true,decide_eq_true_eq] at h1
   have h2:=h1.2 (by omega)
   rw [Nat.add_sub_cancel] at h2
   rcases Nat.lt_or_ge i j with h' | h'
   ·have:=ih h' (by omega);omega
   ·obtain rfl:i=j:=by omega
    exact h2
theorem putS_at {d:Array EN} {e:EN} {k:Nat} (hup:∀ i j,i < j→j < d.size→d[i]!.id < d[j]!.id) (hk:LowB d e.id k):putS d e=if k < d.size∧d[k]!.id=e.id then d.setIfInBounds k e else qhq d k e:=by
 obtain ⟨hkd,h1,h2⟩:=hk
 have hl1:∀ x ∈ d.toList.take k,x.id < e.id:=by
  intro x hx
  obtain ⟨j,hj,rfl⟩:=List.getElem_of_mem hx
  rw [List.length_take] at hj
  have:=h1 j (by omega)
  rw [getElem!_pos d j (by omega)] at this
  simpa using this
 have hsp:insL e false d.toList=d.toList.take k ++ insL e false (d.toList.drop k):=by
  have:=qhz (e:=e) (d.toList.take k) (d.toList.drop k) hl1
  rwa [List.take_append_drop] at this
 unfold putS
 rw [hsp]
 by_cases hlt:k < d.size
 ·rw [qop d k hlt]
  have hge:=h2 k (Nat.le_refl _) hlt
  have hr:∀ x ∈ d.toList.drop (k + 1),x.id≠e.id:=by
   intro x hx
   obtain ⟨j,hj,rfl⟩:=List.getElem_of_mem hx
   rw [List.length_drop] at hj
   have hj':k + 1 + j < d.size:=by simp at hj;omega
   have:=hup k (k + 1 + j) (by omega) hj'
   rw [getElem!_pos d (k + 1 + j) hj'] at this
   rw [List.getElem_drop]
   simp only [Array.getElem_toList]
   omega
  rw [insL,if_pos ⟨hge,rfl⟩,decide_eq_true hge,Bool.false_or,qnh _ hr]
  by_cases he:d[k]!.id=e.id
  ·rw [if_pos he,if_pos ⟨hlt,he⟩]
   apply Array.toList_inj.1
   rw [Array.toList_setIfInBounds,List.set_eq_take_append_cons_drop,if_pos (by simpa using hlt)]
   rfl
  ·rw [if_neg he,if_neg (fun h=>he h.2)]
   unfold qhq
   rw [qop d k hlt]
   rfl
 ·rw [if_neg (fun h=>hlt h.1),List.drop_of_length_le (by simp;omega)]
  unfold qhq
  rw [List.drop_of_length_le (by simp;omega)]
  rfl
theorem qwl {e:EN}:∀ (b:Bool) (l:List EN) (x:EN),x ∈ insL e b l→x ∈ l∨x=e
 | b,[],x,h=>by
   rw [insL] at h
   split at h
   ·cases h
   ·right;simpa using h
 | b,y :: r,x,h=>by
   rw [insL,List.mem_append,List.mem_append] at h
   rcases h with h | h | h
   ·split at h
    ·right;simpa using h
    ·cases h
   ·split at h
    ·cases h
    ·left;simp at h;simp [h]
   ·rcases qwl _ r x h with h' | h'
    ·left;simp [h']
    ·right;exact h'
theorem RdT.sub2 {w w':World} {A A':Option Addr} {d d':Array EN} {e:EN} (h:RdT w A d) (he:RdE w e) (hb:Below w.heap.size w w') (hr:RdK encE 10 w'.heap.size w' A' d') (hs:d'.size≤1000) (hm:∀ x ∈ d'.toList,x ∈ d.toList∨x=e):RdT w' A' d':=by
 refine ⟨hr,fun i hi=>?_,hs⟩
 rcases hm d'[i]! (by rw [getElem!_pos d' i hi];simp) with h1 | h1
 ·obtain ⟨j,hj,ej⟩:=List.getElem_of_mem h1
  have hj':j < d.size:=by simpa using hj
  have:=h.el j hj'
  rw [getElem!_pos d j hj'] at this
  have e':d[j]=d'[i]!:=by rw [←ej];simp
  rw [e'] at this
  exact this.below hb
 ·rw [h1];exact he.below hb
theorem qwm {d:Array EN} {e:EN}:∀ x ∈ (putS d e).toList,x ∈ d.toList∨x=e:=fun x hx=>qwl false d.toList x (by simpa [putS] using hx)
theorem qlh {d:Array EN} {e:EN}:∀ x ∈ (putD d e).toList,x ∈ d.toList∨x=e:=by
 intro x hx
 unfold putD at hx
 split at hx
 ·exact qwm x hx
 ·simp at hx
theorem qni (d:Array EN) (e:EN):(putD d e).size≤40:=by
 unfold putD
 split
 ·rename_i h
  unfold putC at h
  split at h
  ·split at h
   ·cases h
   ·omega
  ·cases h
 ·simp
theorem insEN_any (B:Nat) (v:Value) (d:Array EN) (x:EN) (vb i:Nat) (w:World) (hown:w.ownsRow B 58 10 v d.size (flatK encE 10 d).toList) (hvb:w.heap[vb]?=some (.cells (encE x).toArray 58 (0,0))) (hne:v.ownBlock≠some vb) (hB:B≤w.heap.size) (hi:i≤d.size) (hs:d.size≤1000) :
 Calls Tryz.prog 254 #[v,.int .i64 i,.slice (some ⟨vb,0,none⟩) 1 1] w fun e w'=>∃ v',e=.returned v'∧w'.ownsRow B 58 10 v' (qhq d i x).size (flatK encE 10 (qhq d i x)).toList∧Below B w w':=by
 rcases Nat.lt_or_ge i d.size with hlt | hge
 ·have hv:v≠.slice none 0 0:=by
   intro hv
   obtain ⟨_,⟨_,h0⟩ | ⟨g,cap,cur,hv',_⟩⟩:=hown
   ·omega
   ·rw [hv] at hv';cases hv'
  obtain ⟨g,cap,e1,hg,hgl,hH⟩:=qbo hown hv
  obtain ⟨_,⟨h1,_⟩ | ⟨g',cap',cur,hv',hBg,hh,hnc,hmx,hcur,htk⟩⟩:=hown
  ·exact absurd h1 hv
  ·subst hv'
   injection e1 with e1 _ e2
   injection e1 with e1
   injection e1 with e1
   subst e1
   have hgne:vb≠g':=fun h=>hne (by rw [h];rfl)
   rcases Nat.lt_or_ge d.size cap' with hr | hr
   ·exact insN_room B g' cap' i cur.toList d x vb w (by simpa using hh) hBg (by simpa using hcur) hmx htk hlt (by omega) hvb hgne hs
   ·obtain rfl:cap'=d.size:=by omega
    exact (insN_grow B g' i d x vb w hH hgl hB hlt hvb hs).mono fun _ _ ⟨v',h1,h2,h3⟩=>⟨v',h1,h2,h3.mono hB⟩
 ·obtain rfl:i=d.size:=by omega
  exact (insN_end B v d x vb w hown hvb hB hs).mono fun _ _ ⟨v',h1,h2,h3⟩=>⟨v',h1,h2,(Below.refl B w).grown h3 hB (fun k hk=>(hown.lt k hk).1)⟩
def PutF (d:Array EN) (e:EN) (B:Nat) (r:Ending) (w':World):Prop:=∃ A' c',r=.returned (.tuple #[.slice A' (putD d e).size c',.int .i64 (putC d e)])∧RdT w' A' (putD d e)∧∀ q,A'=some q→B≤q.block
set_option maxHeartbeats 16000000 in
theorem tPutF_any (A:Option Addr) (c:Nat) (d:Array EN) (e:EN) (w:World) (h:RdT w A d) (he:RdE w e) :
 Calls Tryz.prog 203 #[.slice A d.size c,.agg (encE e).toArray] w fun r w'=>PutF d e w.heap.size r w'∧Below w.heap.size w w':=by
 have HR:=hI h
 have HE:=hI he
 have HX:=hI (BoxW.init w (encE e).toArray 58)
 have HBAD:Hid ((chkT d && qcp e)=false→∀ W,Below w.heap.size w W→PutF d e w.heap.size (Ending.returned (.tuple #[.slice none 0 0,.int .i64 2])) W∧Below w.heap.size w W):=fun hf W hb=>by
  have e1:putC d e=2:=by unfold putC;rw [if_neg (by rw [hf];exact Bool.false_ne_true)]
  have e2:putD d e=#[]:=by unfold putD;rw [e1];rfl
  unfold PutF
  rw [e1,e2]
  exact ⟨⟨none,0,rfl,⟨fun h=>absurd h (by decide),fun i hi=>absurd hi (by simp),by decide⟩,fun q h=>by cases h⟩,hb⟩
 have HC:=hI (fun W (hb:Below w.heap.size w W)=>qnz A c d W (h.below hb))
 have HK:=hI (fun W (hb:Below w.heap.size w W)=>qfe e W (he.below hb) he.cz)
 have q1:=qqs d
 have q2:=qut e
 have hsz:=h.sz
 clear h he
 obtain ⟨g1,hg1⟩:∃ g,chkT d=g:=⟨_,rfl⟩
 obtain ⟨g2,hg2⟩:∃ g,qcp e=g:=⟨_,rfl⟩
 rw [hg1] at q1
 rw [hg2] at q2
 have HG1:=hI hg1
 have HG2:=hI hg2
 clear hg1 hg2
 generalize tabE d=td at q1 HC
 generalize enE e=te at q2 HK
 simp only [encE] at HX HK ⊢
 cases g1
 ·go_enter Tryz.func203,Tryz.ntmps203
  go_wp2_with fail
  refine (HC.out _ HX.out.b).mono ?_
  rintro _ w1 ⟨rfl,hb1⟩
  have HX1:=hI (HX.out.next hb1)
  clear hb1
  go_wp2
  go_ret2
  exact HBAD.out (by rw [HG1.out];rfl) _ HX1.out.b
 cases g2
 ·go_enter Tryz.func203,Tryz.ntmps203
  go_wp2_with fail
  refine (HC.out _ HX.out.b).mono ?_
  rintro _ w1 ⟨rfl,hb1⟩
  have HX1:=hI (HX.out.next hb1)
  clear hb1
  have y0:=HX1.out.at_ 0
  have y1:=HX1.out.at_ 1
  have y2:=HX1.out.at_ 2
  have y3:=HX1.out.at_ 3
  have y4:=HX1.out.at_ 4
  have y5:=HX1.out.at_ 5
  have y6:=HX1.out.at_ 6
  have y7:=HX1.out.at_ 7
  have y8:=HX1.out.at_ 8
  have y9:=HX1.out.at_ 9
  go_wp2_with fail
  refine (HK.out _ HX1.out.b).mono ?_
  rintro _ w2 ⟨rfl,hb2⟩
  have HX2:=hI (HX1.out.next hb2)
  clear hb2 y0 y1 y2 y3 y4 y5 y6 y7 y8 y9
  go_wp2
  go_ret2
  exact HBAD.out (by rw [HG1.out,HG2.out];rfl) _ HX2.out.b
 have hup:=qqi HG1.out
 have HBS:=hI (fun W (hb:Below w.heap.size w W)=>bsN_any A c d e.id W (HR.out.below hb).rd (by omega) hup)
 have HCL:=hI (fun W (hb:Below w.heap.size w W)=>CloneN A c d W (HR.out.below hb).rd (by omega))
 have HPS:=hI (fun k (hk:LowB d e.id k)=>putS_at hup hk)
 have HPC:Hid (putC d e=if 40 < (putS d e).size then 8 else 0):=by
  show _=_
  unfold putC
  rw [HG1.out,HG2.out];rfl
 clear hup
 go_enter Tryz.func203,Tryz.ntmps203
 go_wp2_with fail
 refine (HC.out _ HX.out.b).mono ?_
 rintro _ w1 ⟨rfl,hb1⟩
 have HX1:=hI (HX.out.next hb1)
 clear hb1
 have y0:=HX1.out.at_ 0
 have y1:=HX1.out.at_ 1
 have y2:=HX1.out.at_ 2
 have y3:=HX1.out.at_ 3
 have y4:=HX1.out.at_ 4
 have y5:=HX1.out.at_ 5
 have y6:=HX1.out.at_ 6
 have y7:=HX1.out.at_ 7
 have y8:=HX1.out.at_ 8
 have y9:=HX1.out.at_ 9
 go_wp2_with fail
 refine (HK.out _ HX1.out.b).mono ?_
 rintro _ w2 ⟨rfl,hb2⟩
 have HX2:=hI (HX1.out.next hb2)
 have x0:=HX2.out.at_ 0
 clear hb2 y0 y1 y2 y3 y4 y5 y6 y7 y8 y9
 go_wp2_with fail
 refine (HBS.out _ HX2.out.b).mono ?_
 rintro _ w3 ⟨⟨k,rfl,hk⟩,hb3⟩
 have HX3:=hI (HX2.out.next hb3)
 generalize hok:decide (k < d.size∧d[k]!.id=e.id)=ok
 have HOK:=hI hok
 clear hok
 have HPK:=hI (HPS.out k hk)
 have hkd:=hk.1
 clear hb3 hk x0 HPS
 go_wp2_with fail
 refine (HCL.out _ HX3.out.b).mono ?_
 rintro _ w4 ⟨v,rfl,hown,hb4⟩
 have HX4:=hI (HX3.out.next hb4)
 have hl34:w.heap.size < w3.heap.size:=HX3.out.lt
 have hs34:=hb4.size
 clear hb4
 have y0:=HX4.out.at_ 0
 have y1:=HX4.out.at_ 1
 have y2:=HX4.out.at_ 2
 have y3:=HX4.out.at_ 3
 have y4:=HX4.out.at_ 4
 have y5:=HX4.out.at_ 5
 have y6:=HX4.out.at_ 6
 have y7:=HX4.out.at_ 7
 have y8:=HX4.out.at_ 8
 have y9:=HX4.out.at_ 9
 cases ok
 rotate_left
 ·have hf:k < d.size∧d[k]!.id=e.id:=of_decide_eq_true HOK.out
  have hps:=HPK.out
  rw [if_pos hf] at hps
  have hpc:putC d e=0:=by
   have h40:=(qct.1 HG1.out).1
   rw [HPC.out,if_neg (by rw [hps];simp;omega)]
  have hpd:putD d e=d.setIfInBounds k e:=by unfold putD;rw [if_pos hpc,hps]
  have hv:v≠.slice none 0 0:=by
   intro hv
   obtain ⟨_,⟨_,h0⟩ | ⟨g,cap,cur,hv',_⟩⟩:=hown
   ·omega
   ·rw [hv] at hv';cases hv'
  obtain ⟨g,cap,rfl,hg,hgl,hH⟩:=qbo hown hv
  have hs0:=SrtK.put qbz (SrtK.refl hH hgl) hf.1 e
  rw [Nat.zero_add] at hs0
  have HS:=hI hs0
  clear hs0
  have HPD:=hI hpd
  have HPC0:=hI hpc
  have HPM:=hI (qlh (d:=d) (e:=e))
  have kz:(k:Int) < (d.size:Int):=by omega
  have hB:=hI (HX4.out.b.grown HS.out.grown (by have:=HX4.out.b.size;omega) (fun j hj=>by injection hj with hj;omega))
  have o0:=hH.cell (i:=k) (c:=0) hf.1 (by decide)
  have oc0:=o0.1
  have of0:=o0.2
  have o1:=hH.cell (i:=k) (c:=1) hf.1 (by decide)
  have oc1:=o1.1
  have of1:=o1.2
  have o2:=hH.cell (i:=k) (c:=2) hf.1 (by decide)
  have oc2:=o2.1
  have of2:=o2.2
  have o3:=hH.cell (i:=k) (c:=3) hf.1 (by decide)
  have oc3:=o3.1
  have of3:=o3.2
  have o4:=hH.cell (i:=k) (c:=4) hf.1 (by decide)
  have oc4:=o4.1
  have of4:=o4.2
  have o5:=hH.cell (i:=k) (c:=5) hf.1 (by decide)
  have oc5:=o5.1
  have of5:=o5.2
  have o6:=hH.cell (i:=k) (c:=6) hf.1 (by decide)
  have oc6:=o6.1
  have of6:=o6.2
  have o7:=hH.cell (i:=k) (c:=7) hf.1 (by decide)
  have oc7:=o7.1
  have of7:=o7.2
  have o8:=hH.cell (i:=k) (c:=8) hf.1 (by decide)
  have oc8:=o8.1
  have of8:=o8.2
  have o9:=hH.cell (i:=k) (c:=9) hf.1 (by decide)
  have oc9:=o9.1
  have of9:=o9.2
  simp only [Nat.zero_add,Nat.add_zero] at oc0 of0 oc1 of1 oc2 of2 oc3 of3 oc4 of4 oc5 of5 oc6 of6 oc7 of7 oc8 of8 oc9 of9
  generalize (encE d[k]!)[0]! = old0 at oc0
  generalize (encE d[k]!)[1]! = old1 at oc1
  generalize (encE d[k]!)[2]! = old2 at oc2
  generalize (encE d[k]!)[3]! = old3 at oc3
  generalize (encE d[k]!)[4]! = old4 at oc4
  generalize (encE d[k]!)[5]! = old5 at oc5
  generalize (encE d[k]!)[6]! = old6 at oc6
  generalize (encE d[k]!)[7]! = old7 at oc7
  generalize (encE d[k]!)[8]! = old8 at oc8
  generalize (encE d[k]!)[9]! = old9 at oc9
  clear o0 o1 o2 o3 o4 o5 o6 o7 o8 o9
  have HGB:Hid (w.heap.size≤g):=by have:=HX3.out.b.size;show _≤_;omega
  clear hf hown hv hps hpc hpd hH hg
  go_wp2
  go_ret2
  unfold PutF
  rw [HPC0.out]
  have hrd:RdK encE 10 (w4.setCells g (k * 10) (encE e)).heap.size (w4.setCells g (k * 10) (encE e)) (some ⟨g,0,none⟩) (d.setIfInBounds k e):=RdK.of_holds HS.out.holds HS.out.lt1
  have hrt:=HR.out.sub2 HE.out hB.out (A':=some ⟨g,0,none⟩) (d':=putD d e) (by rw [HPD.out];exact hrd) (by have:=qni d e;omega) HPM.out
  exact ⟨⟨some ⟨g,0,none⟩,cap,by rw [HPD.out,Array.size_setIfInBounds];rfl,hrt,fun q h=>by cases h;exact HGB.out⟩,hB.out⟩
 ·have hf:¬ (k < d.size∧d[k]!.id=e.id):=of_decide_eq_false HOK.out
  have hps:=HPK.out
  rw [if_neg hf] at hps
  have his:=qhy (d:=d) (x:=e) (i:=k) hkd
  by_cases h40:40≤d.size
  ·have h40':decide ((40:Int)≤(d.size:Int))=true:=decide_eq_true (by omega)
   have hpc:putC d e=8:=by rw [HPC.out,if_pos (by rw [hps,his];omega)]
   have hpd:putD d e=#[]:=by unfold putD;rw [if_neg (by rw [hpc];decide)]
   have HPD:=hI hpd
   have HPC0:=hI hpc
   clear hf hps his hpc hpd hown
   go_wp2
   go_ret2
   unfold PutF
   rw [HPC0.out,HPD.out]
   exact ⟨⟨none,0,rfl,⟨fun h=>absurd h (by decide),fun i hi=>absurd hi (by simp),by decide⟩,fun q h=>by cases h⟩,HX4.out.b⟩
  ·have h40':decide ((40:Int)≤(d.size:Int))=false:=decide_eq_false (by omega)
   have hpc:putC d e=0:=by rw [HPC.out,if_neg (by rw [hps,his];omega)]
   have hpd:putD d e=qhq d k e:=by unfold putD;rw [if_pos hpc,hps]
   have HPD:=hI hpd
   have HPC0:=hI hpc
   have HPM:=hI (qlh (d:=d) (e:=e))
   have hne:v.ownBlock≠some w4.heap.size:=fun h=>by have:=(hown.lt _ h).2;omega
   have HIN:=hI (insEN_any w3.heap.size v d e w4.heap.size k (w4.alloc (.cells (encE e).toArray 58)) (hown.alloc _) (heap_alloc_new _ _) hne (by simp;omega) hkd (by omega))
   clear hf hps his hpc hpd hown hne
   simp only [encE] at HIN
   go_wp2_with fail
   refine HIN.out.mono ?_
   rintro _ w5 ⟨v',rfl,hown5,hb5⟩
   have HB5:=hI ((qab HX4.out.b (.cells (encE e).toArray 58)).trans (hb5.mono (by omega)))
   have HO5:=hI hown5
   clear hb5 hown5 HIN y0 y1 y2 y3 y4 y5 y6 y7 y8 y9
   go_wp2
   go_ret2
   unfold PutF
   rw [HPC0.out]
   obtain ⟨A',c',e',hr,_⟩:=qaw HO5.out
   have hrt:=HR.out.sub2 HE.out HB5.out (A':=A') (d':=putD d e) (by rw [HPD.out];exact hr) (by have:=qni d e;omega) HPM.out
   exact ⟨⟨A',c',by rw [HPD.out,←e'];rfl,hrt,fun q h=>Nat.le_trans HX3.out.b.size (HO5.out.lt q.block (by rw [e',h];rfl)).1⟩,HB5.out⟩
end Go.Proofs.YtlkmagmdhopcjaaGreat
