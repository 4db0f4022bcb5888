/- Texts that the law leans on. -/
import Derived.Test.YtnmojicfmcbgmaaGreatDoorQImY
import Derived.Test.YtnmojicfmcbgmaaGreatDoorQTbD
import Derived.Test.YtnmojicfmcbgmaaGreatDoorQOpenK
namespace Go.Proofs.YtnmojicfmcbgmaaGreatDoor
open Go.RowKit Go.Sort Go.Lib Nb
set_option maxRecDepth 100000
structure TmI {α β:Type} [Inhabited α] (kd:KD α) (C:Cod β) (pc:α→β) (nn:α→Prop) (T:TypeId) (n b B:Nat) (s:ByteArray) (st:IS) (w:World) (z:Array α) (v:Value) (W:World):Prop where
 own:W.ownsRow w.heap.size T kd.k v z.size (flatK kd.en kd.k z).toList
 rd:∀ i,i < z.size→kd.rd W z[i]!∧∀ blk,kd.rw z[i]! blk→w.heap.size≤blk∧v.ownBlock≠some blk
 ms:z.toList.map pc=(qan (C.rd s.data.toList) z.size st).2
 nn:∀ y ∈ z.toList,nn y
 p:IPost n b B s (qan (C.rd s.data.toList) z.size st).1 w W
def TmP {α β:Type} [Inhabited α] (kd:KD α) (C:Cod β) (pc:α→β) (nn:α→Prop) (n b B:Nat) (s:ByteArray) (m:Nat) (st:IS) (w:World) (e:Ending) (w':World):Prop :=
 ∃ x:RW α,e=.returned (.slice x.A x.z.size x.c)∧RdK kd.en kd.k w'.heap.size w' x.A x.z∧x.z.size≤x.c∧(x.A=none→x.c=0)∧Fr w.heap.size x.A ∧
  (∀ i,i < x.z.size→kd.rd w' x.z[i]!∧∀ blk,kd.rw x.z[i]! blk→w.heap.size≤blk) ∧
  ((qan (C.rd s.data.toList) m st).1.r.e=0→x.z.toList.map pc=(qan (C.rd s.data.toList) m st).2∧∀ y ∈ x.z.toList,nn y)∧IPost n b B s (qan (C.rd s.data.toList) m st).1 w w'
section
variable {α β:Type} [Inhabited α] {kd:KD α} {C:Cod β} {pc:α→β} {nn:α→Prop} {T:TypeId} {n b B:Nat} {s:ByteArray} {st:IS} {w W:World} {z:Array α} {v:Value}
theorem TmI.start (h:IRd n b B s st w):TmI kd C pc nn T n b B s st w #[] (.slice none 0 0) w :=
 ⟨qda _ _ _ _ _,fun i hi=>absurd hi (by simp),rfl,by simp,IPost.of_below h (Below.refl _ _)⟩
theorem TmI.step {x:α} {w5 w7:World} {v':Value} (h:TmI kd C pc nn T n b B s st w z v W) (hn:n≤w.heap.size) (hge:0 < n) (hT:T≠126)
 (hrd:kd.rd w5 x) (hrw:∀ blk,kd.rw x blk→W.heap.size≤blk) (hpc:pc x=(C.rd s.data.toList (qan (C.rd s.data.toList) z.size st).1).2) (hnn:nn x) (hp:IPost n b B s (C.rd s.data.toList (qan (C.rd s.data.toList) z.size st).1).1 W w5) (o:Obj)
 (hown:w7.ownsRow w.heap.size T kd.k v' (z.size + 1) ((flatK kd.en kd.k z).toList ++ kd.en x)) (hgrow:(w5.alloc o).grownBy w7 v.ownBlock) (hat:v'.ownBlock=v.ownBlock∨v'.ownBlock=some (w5.alloc o).heap.size):TmI kd C pc nn T n b B s st w (z.push x) v' w7:=by
 have hb:=h.p.1.hb
 have hB:=h.p.1.hB
 have s1:=h.p.2.size
 have s2:=hp.2.size
 have s3:(w5.alloc o).heap.size=w5.heap.size + 1:=by simp
 have s4:=hgrow.size
 have own6:(w5.alloc o).ownsRow w.heap.size T kd.k v z.size (flatK kd.en kd.k z).toList:=qbj (qdl h.own hp.2 (by omega) (by omega)) (bel1 w5 o)
 have old:∀ blk,blk < w5.heap.size→v.ownBlock≠some blk→w7.heap[blk]?=w5.heap[blk]?:=fun blk h1 h2 =>
  (hgrow.block blk (by omega) (fun e=>h2 e.symm)).trans ((bel1 w5 o).block blk h1)
 refine ⟨?_,fun i hi=>?_,?_,fun y hy=>?_,?_⟩
 ·rw [Array.size_push,qcr kd.hk]
  exact hown
 ·rw [Array.size_push] at hi
  by_cases hlt:i < z.size
  ·have e:(z.push x)[i]! = z[i]!:=by
    rw [getElem!_pos (z.push x) i (by simp;omega),getElem!_pos z i hlt,Array.getElem_push_lt hlt]
   rw [e]
   obtain ⟨r1,r2⟩:=h.rd i hlt
   have hl:∀ blk,kd.rw z[i]! blk→blk < W.heap.size:=fun blk hk=>kd.lt r1 hk
   refine ⟨kd.keep r1 (by omega) (fun blk hk=>?_),fun blk hk=>⟨(r2 blk hk).1,?_⟩⟩
   ·have h1:=hl blk hk
    have h2:=r2 blk hk
    exact (old blk (by omega) h2.2).trans (hp.2.block blk h1 (by omega) (by omega))
   ·have h1:=hl blk hk
    rcases hat with hat | hat
    ·rw [hat];exact (r2 blk hk).2
    ·rw [hat];intro e;injection e with e;omega
  ·have e:(z.push x)[i]! = x:=by
    have:i=z.size:=by omega
    subst this
    rw [getElem!_pos (z.push x) _ (by simp),Array.getElem_push_eq]
   rw [e]
   have hne:∀ blk,kd.rw x blk→v.ownBlock≠some blk:=fun blk hk e=>by
    have:=(h.own.lt blk e).2
    have:=hrw blk hk
    omega
   refine ⟨kd.keep hrd (by omega) (fun blk hk=>old blk (kd.lt hrd hk) (hne blk hk)),fun blk hk=>⟨by have:=hrw blk hk;omega,?_⟩⟩
   rcases hat with hat | hat
   ·rw [hat];exact hne blk hk
   ·rw [hat];intro e;injection e with e;have:=kd.lt hrd hk;omega
 ·rw [Array.toList_push,List.map_append,List.map_cons,List.map_nil,h.ms,Array.size_push,qcm,hpc]
 ·rw [Array.toList_push] at hy
  rcases List.mem_append.1 hy with hy | hy
  ·exact h.nn y hy
  ·simp at hy;subst hy;exact hnn
 ·rw [Array.size_push,qcm]
  refine ⟨(hp.1.below (bel1 w5 o)).owned own6 hT hn hge hgrow,((h.p.2.trans hp.2).below (bel1 w5 o)).own hgrow (fun g hg=>(h.own.lt g hg).1)⟩
theorem TmI.done {m:Nat} (h:TmI kd C pc nn T n b B s st w z v W) (hm:z.size=m):TmP kd C pc nn n b B s m st w (.returned v) W:=by
 obtain ⟨A,c,rfl,h1,h2,h3,h4⟩:=qeo h.own
 subst hm
 exact ⟨⟨A,c,z⟩,rfl,h1,h2,h3,h4,fun i hi=>⟨(h.rd i hi).1,fun blk hk=>((h.rd i hi).2 blk hk).1⟩,fun _=>⟨h.ms,h.nn⟩,h.p⟩
theorem TmI.bad {m:Nat} (h:TmI kd C pc nn T n b B s st w z v W) (hm:z.size≤m) (he:(qan (C.rd s.data.toList) z.size st).1.r.e≠0):TmP kd C pc nn n b B s m st w (.returned (.slice none 0 0)) W:=by
 have e:=manyR_stop (C.stuck s.data.toList) hm he
 refine ⟨⟨none,0,#[]⟩,rfl,fun h=>absurd h (by simp),Nat.le_refl _,fun _=>rfl,Fr.none_ _,fun i hi=>absurd hi (by simp),fun h0=>absurd (e ▸ h0) he,?_⟩
 rw [e]
 exact h.p
end
theorem qne:(Tryz.prog.info? 84).map (fun i=>(i.zero,i.size,i.bytes))=some (some (.agg #[.int .i64 0,.int .i64 0,.int .i64 0,.int .i64 0]),4,32):=by kernel_rfl
theorem qnf:(Tryz.prog.info? 86).map (fun i=>(i.zero,i.size,i.bytes))=some (some (.agg #[.int .i64 0,.int .i64 0,.string ⟨#[]⟩]),3,32):=by kernel_rfl
set_option maxHeartbeats 4000000 in
theorem qxt (n b B:Nat) (s:ByteArray) (p1 p3:Nat) (st:IS) (m:Nat) (w:World) (h:VRd n b B s p1 p3 st w) (hs:s.size≤1000000) (hm:m≤1000) :
 Calls Tryz.prog 133 #[.pointer (some ⟨B,0,none⟩),.int .i64 m,.func (.func 134) #[] #[.pointer (some ⟨p3,0,none⟩),.pointer (some ⟨p1,0,none⟩)]] w fun e w'=>TmP kdE enC entM nnE n b B s m st w e w':=by
 obtain ⟨i0,hi0,hz0,hz1,hz2⟩:=info_parts qwt
 have H:=hI h
 have HS:=hI hs
 have HN:=hI h.i.hn
 have HI:=hI (TmI.start (kd:=kdE) (C:=enC) (pc:=entM) (nn:=nnE) (T:=132) h.i)
 clear h hs
 go_enter Tryz.func133,Tryz.ntmps133
 go_wp2_with fail
 go_loopw [7,9] (fun v i W=>∃ (k:Nat) (z:Array (EN)),i=.int .i64 (k:Int)∧k≤m∧Hid (z.size=k)∧Hid (TmI kdE enC entM nnE 132 n b B s st w z v W)) (fun _ i _=>m - (intOf i).toNat)
 case atStart=>exact ⟨0,#[],rfl,Nat.zero_le _,hI rfl,HI⟩
 case round =>
  obtain ⟨k,z,rfl,hk,HZ,HT⟩:=hrel
  have VR:=hI (H.out.post HT.out.p)
  by_cases hlt:k < m
  ·have kz:(k:Int) < (m:Int):=by omega
   have c0:=VR.out.i.c0
   have HD:=hI (qfn b s _ wr VR.out.i.rd)
   by_cases he:(qan ((enC).rd s.data.toList) z.size st).1.r.e=0
   ·have HD0:Hid (Calls Tryz.prog 41 #[.pointer (some ⟨b,0,none⟩)] wr fun e w'=>e=.returned .nilIface∧wr=w'):=HD.out.mono fun e w' ⟨ev,h1,h2,h3⟩=>by
     rcases h2 with ⟨_,rfl⟩ | ⟨h2,_⟩
     ·exact ⟨h1,h3⟩
     ·exact absurd he h2
    have HOF:=hI (entry_any VR.out HS.out)
    clear he HD
    go_wp2_with fail
    refine HD0.out.mono ?_
    rintro _ _ ⟨rfl,rfl⟩
    clear HD0
    go_wp2_with fail
    refine HOF.out.mono ?_
    rintro _ w5 ⟨x,rfl,hrd,hrw,hpc,hnn,hp⟩
    have X1:=hI hrd
    have X2:=hI hrw
    have X3:=hI hpc
    have X4:=hI hnn
    have X5:=hI hp
    have s5:w.heap.size≤w5.heap.size:=Nat.le_trans HT.out.p.2.size hp.2.size
    have hown2:=qbj (qdl HT.out.own hp.2 (by have:=hp.1.hb;have:=HN.out;omega) (by have:=hp.1.hB;have:=HN.out;omega)) (bel1 w5 (.cells (encE x).toArray 132))
    have hzs:z.size≤1000:=by have:=HZ.out;omega
    have HG:=hI (fun v' w7=>TmI.step (w5:=w5) (w7:=w7) (v':=v') HT.out HN.out H.out.ge (by decide) X1.out X2.out X3.out X4.out X5.out (.cells (encE x).toArray 132))
    clear hrd hrw hpc hnn hp HOF c0
    obtain ⟨id,ph,qu,t,bal,abal,seen,age,pay,xA,xc,xz⟩:=x
    simp only [encE]
    go_wp2_with (at_builtin;refine wpList_append_own_at _ rfl _ _ 22 rfl w.heap.size 132 i0 (.agg #[.int .i64 0,.int .i64 0,.int .i64 0,.int .i64 0,.int .i64 0,.int .i64 0,.int .i64 0,.int .i64 0,.string ⟨#[]⟩,.slice none 0 0]) 10 104 Tryz.underlying22 hi0 hz0 hz1 hz2 rfl (by decide) _ _ _ rfl hown2 ⟨w5.heap.size,0,none⟩ 1 1 [.int .i64 id,.int .i64 ph,.int .i64 qu,.int .i64 t,.int .i64 bal,.int .i64 abal,.int .i64 seen,.int .i64 age,.string pay,.slice xA xz.size xc] rfl rfl (qcl w5 _ _) (by simp [Value.oneCell']) (by unfold maxLen;omega) (by omega) (by simp;omega) ?_;intro v' w7 hown3 hgrow _ hat)
    go_roundw
    case rel=>exact ⟨k + 1,z.push ⟨id,ph,qu,t,bal,abal,seen,age,pay,xA,xc,xz⟩,by go_num,by omega,hI (by rw [Array.size_push,HZ.out]),hI (HG.out v' w7 hown3 hgrow hat)⟩
    case measure=>simp [intOf];omega
   ·have HD0:Hid (Calls Tryz.prog 41 #[.pointer (some ⟨b,0,none⟩)] wr fun e w'=>(∃ t u,e=.returned (.iface t u))∧wr=w'):=HD.out.mono fun e w' ⟨ev,h1,h2,h3⟩=>by
     rcases h2 with ⟨h2,_⟩ | ⟨_,op,ops,_,h2⟩
     ·exact absurd h2 he
     ·obtain ⟨t,u,rfl⟩:=qct h2
      exact ⟨⟨t,u,h1⟩,h3⟩
    have HB:=hI (HT.out.bad (m:=m) (by have:=HZ.out;omega) he)
    clear he HD
    go_wp2_with fail
    refine HD0.out.mono ?_
    rintro _ _ ⟨⟨t,u,rfl⟩,rfl⟩
    clear HD0 c0
    go_wp2
    go_ret
    exact HB.out
  ·have kz:decide ((k:Int) < (m:Int))=false:=decide_eq_false (by omega)
   have HB:=hI (HT.out.done (m:=m) (by have:=HZ.out;omega))
   go_wp2
   go_ret
   exact HB.out
set_option maxHeartbeats 4000000 in
theorem qxu (n b B:Nat) (s:ByteArray) (p1 p3:Nat) (st:IS) (m:Nat) (w:World) (h:VRd n b B s p1 p3 st w) (hs:s.size≤1000000) (hm:m≤1000) :
 Calls Tryz.prog 81 #[.pointer (some ⟨B,0,none⟩),.int .i64 m,.func (.func 82) #[] #[.pointer (some ⟨p3,0,none⟩),.pointer (some ⟨p1,0,none⟩)]] w fun e w'=>TmP kdK knC knM nnK n b B s m st w e w':=by
 obtain ⟨i0,hi0,hz0,hz1,hz2⟩:=info_parts qpl
 have H:=hI h
 have HS:=hI hs
 have HN:=hI h.i.hn
 have HI:=hI (TmI.start (kd:=kdK) (C:=knC) (pc:=knM) (nn:=nnK) (T:=81) h.i)
 clear h hs
 go_enter Tryz.func81,Tryz.ntmps81
 go_wp2_with fail
 go_loopw [7,9] (fun v i W=>∃ (k:Nat) (z:Array (KE)),i=.int .i64 (k:Int)∧k≤m∧Hid (z.size=k)∧Hid (TmI kdK knC knM nnK 81 n b B s st w z v W)) (fun _ i _=>m - (intOf i).toNat)
 case atStart=>exact ⟨0,#[],rfl,Nat.zero_le _,hI rfl,HI⟩
 case round =>
  obtain ⟨k,z,rfl,hk,HZ,HT⟩:=hrel
  have VR:=hI (H.out.post HT.out.p)
  by_cases hlt:k < m
  ·have kz:(k:Int) < (m:Int):=by omega
   have c0:=VR.out.i.c0
   have HD:=hI (qfn b s _ wr VR.out.i.rd)
   by_cases he:(qan ((knC).rd s.data.toList) z.size st).1.r.e=0
   ·have HD0:Hid (Calls Tryz.prog 41 #[.pointer (some ⟨b,0,none⟩)] wr fun e w'=>e=.returned .nilIface∧wr=w'):=HD.out.mono fun e w' ⟨ev,h1,h2,h3⟩=>by
     rcases h2 with ⟨_,rfl⟩ | ⟨h2,_⟩
     ·exact ⟨h1,h3⟩
     ·exact absurd he h2
    have HOF:=hI (known_any VR.out HS.out)
    clear he HD
    go_wp2_with fail
    refine HD0.out.mono ?_
    rintro _ _ ⟨rfl,rfl⟩
    clear HD0
    go_wp2_with fail
    refine HOF.out.mono ?_
    rintro _ w5 ⟨x,rfl,hrd,hrw,hpc,hnn,hp⟩
    have X1:=hI hrd
    have X2:=hI hrw
    have X3:=hI hpc
    have X4:=hI hnn
    have X5:=hI hp
    have s5:w.heap.size≤w5.heap.size:=Nat.le_trans HT.out.p.2.size hp.2.size
    have hown2:=qbj (qdl HT.out.own hp.2 (by have:=hp.1.hb;have:=HN.out;omega) (by have:=hp.1.hB;have:=HN.out;omega)) (bel1 w5 (.cells (qcs x).toArray 81))
    have hzs:z.size≤1000:=by have:=HZ.out;omega
    have HG:=hI (fun v' w7=>TmI.step (w5:=w5) (w7:=w7) (v':=v') HT.out HN.out H.out.ge (by decide) X1.out X2.out X3.out X4.out X5.out (.cells (qcs x).toArray 81))
    clear hrd hrw hpc hnn hp HOF c0
    obtain ⟨base,r,a⟩:=x
    simp only [qcs]
    go_wp2_with (at_builtin;refine wpList_append_own_at _ rfl _ _ 24 rfl w.heap.size 81 i0 (.agg #[.int .i64 0,.slice none 0 0,.slice none 0 0]) 3 56 Tryz.underlying24 hi0 hz0 hz1 hz2 rfl (by decide) _ _ _ rfl hown2 ⟨w5.heap.size,0,none⟩ 1 1 [.int .i64 base,.slice r.A r.z.size r.c,.slice a.A a.z.size a.c] rfl rfl (qcl w5 _ _) (by simp [Value.oneCell']) (by unfold maxLen;omega) (by omega) (by simp;omega) ?_;intro v' w7 hown3 hgrow _ hat)
    go_roundw
    case rel=>exact ⟨k + 1,z.push ⟨base,r,a⟩,by go_num,by omega,hI (by rw [Array.size_push,HZ.out]),hI (HG.out v' w7 hown3 hgrow hat)⟩
    case measure=>simp [intOf];omega
   ·have HD0:Hid (Calls Tryz.prog 41 #[.pointer (some ⟨b,0,none⟩)] wr fun e w'=>(∃ t u,e=.returned (.iface t u))∧wr=w'):=HD.out.mono fun e w' ⟨ev,h1,h2,h3⟩=>by
     rcases h2 with ⟨h2,_⟩ | ⟨_,op,ops,_,h2⟩
     ·exact absurd h2 he
     ·obtain ⟨t,u,rfl⟩:=qct h2
      exact ⟨⟨t,u,h1⟩,h3⟩
    have HB:=hI (HT.out.bad (m:=m) (by have:=HZ.out;omega) he)
    clear he HD
    go_wp2_with fail
    refine HD0.out.mono ?_
    rintro _ _ ⟨⟨t,u,rfl⟩,rfl⟩
    clear HD0 c0
    go_wp2
    go_ret
    exact HB.out
  ·have kz:decide ((k:Int) < (m:Int))=false:=decide_eq_false (by omega)
   have HB:=hI (HT.out.done (m:=m) (by have:=HZ.out;omega))
   go_wp2
   go_ret
   exact HB.out
set_option maxHeartbeats 4000000 in
theorem qxv (n b B:Nat) (s:ByteArray) (p1 p3:Nat) (st:IS) (m:Nat) (w:World) (h:VRd n b B s p1 p3 st w) (hs:s.size≤1000000) (hm:m≤1000) :
 Calls Tryz.prog 139 #[.pointer (some ⟨B,0,none⟩),.int .i64 m,.func (.func 140) #[] #[.pointer (some ⟨p3,0,none⟩)]] w fun e w'=>TmP kdT (nC.vec 4) itM nnT n b B s m st w e w':=by
 obtain ⟨i0,hi0,hz0,hz1,hz2⟩:=info_parts qne
 have H:=hI h
 have HS:=hI hs
 have HN:=hI h.i.hn
 have HI:=hI (TmI.start (kd:=kdT) (C:=(nC.vec 4)) (pc:=itM) (nn:=nnT) (T:=84) h.i)
 clear h hs
 go_enter Tryz.func139,Tryz.ntmps139
 go_wp2_with fail
 go_loopw [7,9] (fun v i W=>∃ (k:Nat) (z:Array (IT)),i=.int .i64 (k:Int)∧k≤m∧Hid (z.size=k)∧Hid (TmI kdT (nC.vec 4) itM nnT 84 n b B s st w z v W)) (fun _ i _=>m - (intOf i).toNat)
 case atStart=>exact ⟨0,#[],rfl,Nat.zero_le _,hI rfl,HI⟩
 case round =>
  obtain ⟨k,z,rfl,hk,HZ,HT⟩:=hrel
  have VR:=hI (H.out.post HT.out.p)
  by_cases hlt:k < m
  ·have kz:(k:Int) < (m:Int):=by omega
   have c0:=VR.out.i.c0
   have HD:=hI (qfn b s _ wr VR.out.i.rd)
   by_cases he:(qan (((nC.vec 4)).rd s.data.toList) z.size st).1.r.e=0
   ·have HD0:Hid (Calls Tryz.prog 41 #[.pointer (some ⟨b,0,none⟩)] wr fun e w'=>e=.returned .nilIface∧wr=w'):=HD.out.mono fun e w' ⟨ev,h1,h2,h3⟩=>by
     rcases h2 with ⟨_,rfl⟩ | ⟨h2,_⟩
     ·exact ⟨h1,h3⟩
     ·exact absurd he h2
    have HOF:=hI (item_any VR.out HS.out)
    clear he HD
    go_wp2_with fail
    refine HD0.out.mono ?_
    rintro _ _ ⟨rfl,rfl⟩
    clear HD0
    go_wp2_with fail
    refine HOF.out.mono ?_
    rintro _ w5 ⟨x,rfl,hrd,hrw,hpc,hnn,hp⟩
    have X1:=hI hrd
    have X2:=hI hrw
    have X3:=hI hpc
    have X4:=hI hnn
    have X5:=hI hp
    have s5:w.heap.size≤w5.heap.size:=Nat.le_trans HT.out.p.2.size hp.2.size
    have hown2:=qbj (qdl HT.out.own hp.2 (by have:=hp.1.hb;have:=HN.out;omega) (by have:=hp.1.hB;have:=HN.out;omega)) (bel1 w5 (.cells (qdc x).toArray 84))
    have hzs:z.size≤1000:=by have:=HZ.out;omega
    have HG:=hI (fun v' w7=>TmI.step (w5:=w5) (w7:=w7) (v':=v') HT.out HN.out H.out.ge (by decide) X1.out X2.out X3.out X4.out X5.out (.cells (qdc x).toArray 84))
    clear hrd hrw hpc hnn hp HOF c0
    obtain ⟨id,free,held,gone⟩:=x
    simp only [qdc]
    go_wp2_with (at_builtin;refine wpList_append_own_at _ rfl _ _ 30 rfl w.heap.size 84 i0 (.agg #[.int .i64 0,.int .i64 0,.int .i64 0,.int .i64 0]) 4 32 Tryz.underlying30 hi0 hz0 hz1 hz2 rfl (by decide) _ _ _ rfl hown2 ⟨w5.heap.size,0,none⟩ 1 1 [.int .i64 id,.int .i64 free,.int .i64 held,.int .i64 gone] rfl rfl (qcl w5 _ _) (by simp [Value.oneCell']) (by unfold maxLen;omega) (by omega) (by simp;omega) ?_;intro v' w7 hown3 hgrow _ hat)
    go_roundw
    case rel=>exact ⟨k + 1,z.push ⟨id,free,held,gone⟩,by go_num,by omega,hI (by rw [Array.size_push,HZ.out]),hI (HG.out v' w7 hown3 hgrow hat)⟩
    case measure=>simp [intOf];omega
   ·have HD0:Hid (Calls Tryz.prog 41 #[.pointer (some ⟨b,0,none⟩)] wr fun e w'=>(∃ t u,e=.returned (.iface t u))∧wr=w'):=HD.out.mono fun e w' ⟨ev,h1,h2,h3⟩=>by
     rcases h2 with ⟨h2,_⟩ | ⟨_,op,ops,_,h2⟩
     ·exact absurd h2 he
     ·obtain ⟨t,u,rfl⟩:=qct h2
      exact ⟨⟨t,u,h1⟩,h3⟩
    have HB:=hI (HT.out.bad (m:=m) (by have:=HZ.out;omega) he)
    clear he HD
    go_wp2_with fail
    refine HD0.out.mono ?_
    rintro _ _ ⟨⟨t,u,rfl⟩,rfl⟩
    clear HD0 c0
    go_wp2
    go_ret
    exact HB.out
  ·have kz:decide ((k:Int) < (m:Int))=false:=decide_eq_false (by omega)
   have HB:=hI (HT.out.done (m:=m) (by have:=HZ.out;omega))
   go_wp2
   go_ret
   exact HB.out
set_option maxHeartbeats 4000000 in
theorem qxw (n b B:Nat) (s:ByteArray) (p1 p3:Nat) (st:IS) (m:Nat) (w:World) (h:VRd n b B s p1 p3 st w) (hs:s.size≤1000000) (hm:m≤1000) :
 Calls Tryz.prog 141 #[.pointer (some ⟨B,0,none⟩),.int .i64 m,.func (.func 142) #[] #[.pointer (some ⟨p3,0,none⟩),.pointer (some ⟨p1,0,none⟩)]] w fun e w'=>TmP kdS seC seM nnS n b B s m st w e w':=by
 obtain ⟨i0,hi0,hz0,hz1,hz2⟩:=info_parts qnf
 have H:=hI h
 have HS:=hI hs
 have HN:=hI h.i.hn
 have HI:=hI (TmI.start (kd:=kdS) (C:=seC) (pc:=seM) (nn:=nnS) (T:=86) h.i)
 clear h hs
 go_enter Tryz.func141,Tryz.ntmps141
 go_wp2_with fail
 go_loopw [7,9] (fun v i W=>∃ (k:Nat) (z:Array (SS)),i=.int .i64 (k:Int)∧k≤m∧Hid (z.size=k)∧Hid (TmI kdS seC seM nnS 86 n b B s st w z v W)) (fun _ i _=>m - (intOf i).toNat)
 case atStart=>exact ⟨0,#[],rfl,Nat.zero_le _,hI rfl,HI⟩
 case round =>
  obtain ⟨k,z,rfl,hk,HZ,HT⟩:=hrel
  have VR:=hI (H.out.post HT.out.p)
  by_cases hlt:k < m
  ·have kz:(k:Int) < (m:Int):=by omega
   have c0:=VR.out.i.c0
   have HD:=hI (qfn b s _ wr VR.out.i.rd)
   by_cases he:(qan ((seC).rd s.data.toList) z.size st).1.r.e=0
   ·have HD0:Hid (Calls Tryz.prog 41 #[.pointer (some ⟨b,0,none⟩)] wr fun e w'=>e=.returned .nilIface∧wr=w'):=HD.out.mono fun e w' ⟨ev,h1,h2,h3⟩=>by
     rcases h2 with ⟨_,rfl⟩ | ⟨h2,_⟩
     ·exact ⟨h1,h3⟩
     ·exact absurd he h2
    have HOF:=hI (sess_any VR.out HS.out)
    clear he HD
    go_wp2_with fail
    refine HD0.out.mono ?_
    rintro _ _ ⟨rfl,rfl⟩
    clear HD0
    go_wp2_with fail
    refine HOF.out.mono ?_
    rintro _ w5 ⟨x,rfl,hrd,hrw,hpc,hnn,hp⟩
    have X1:=hI hrd
    have X2:=hI hrw
    have X3:=hI hpc
    have X4:=hI hnn
    have X5:=hI hp
    have s5:w.heap.size≤w5.heap.size:=Nat.le_trans HT.out.p.2.size hp.2.size
    have hown2:=qbj (qdl HT.out.own hp.2 (by have:=hp.1.hb;have:=HN.out;omega) (by have:=hp.1.hB;have:=HN.out;omega)) (bel1 w5 (.cells (qcw x).toArray 86))
    have hzs:z.size≤1000:=by have:=HZ.out;omega
    have HG:=hI (fun v' w7=>TmI.step (w5:=w5) (w7:=w7) (v':=v') HT.out HN.out H.out.ge (by decide) X1.out X2.out X3.out X4.out X5.out (.cells (qcw x).toArray 86))
    clear hrd hrw hpc hnn hp HOF c0
    obtain ⟨cl,seq,rep⟩:=x
    simp only [qcw]
    go_wp2_with (at_builtin;refine wpList_append_own_at _ rfl _ _ 31 rfl w.heap.size 86 i0 (.agg #[.int .i64 0,.int .i64 0,.string ⟨#[]⟩]) 3 32 Tryz.underlying31 hi0 hz0 hz1 hz2 rfl (by decide) _ _ _ rfl hown2 ⟨w5.heap.size,0,none⟩ 1 1 [.int .i64 cl,.int .i64 seq,.string rep] rfl rfl (qcl w5 _ _) (by simp [Value.oneCell']) (by unfold maxLen;omega) (by omega) (by simp;omega) ?_;intro v' w7 hown3 hgrow _ hat)
    go_roundw
    case rel=>exact ⟨k + 1,z.push ⟨cl,seq,rep⟩,by go_num,by omega,hI (by rw [Array.size_push,HZ.out]),hI (HG.out v' w7 hown3 hgrow hat)⟩
    case measure=>simp [intOf];omega
   ·have HD0:Hid (Calls Tryz.prog 41 #[.pointer (some ⟨b,0,none⟩)] wr fun e w'=>(∃ t u,e=.returned (.iface t u))∧wr=w'):=HD.out.mono fun e w' ⟨ev,h1,h2,h3⟩=>by
     rcases h2 with ⟨h2,_⟩ | ⟨_,op,ops,_,h2⟩
     ·exact absurd h2 he
     ·obtain ⟨t,u,rfl⟩:=qct h2
      exact ⟨⟨t,u,h1⟩,h3⟩
    have HB:=hI (HT.out.bad (m:=m) (by have:=HZ.out;omega) he)
    clear he HD
    go_wp2_with fail
    refine HD0.out.mono ?_
    rintro _ _ ⟨⟨t,u,rfl⟩,rfl⟩
    clear HD0 c0
    go_wp2
    go_ret
    exact HB.out
  ·have kz:decide ((k:Int) < (m:Int))=false:=decide_eq_false (by omega)
   have HB:=hI (HT.out.done (m:=m) (by have:=HZ.out;omega))
   go_wp2
   go_ret
   exact HB.out
set_option maxHeartbeats 4000000 in
theorem qxx (n b B:Nat) (s:ByteArray) (p1 p3:Nat) (st:IS) (m:Nat) (w:World) (h:VRd n b B s p1 p3 st w) (hs:s.size≤1000000) (hm:m≤1000) :
 Calls Tryz.prog 85 #[.pointer (some ⟨B,0,none⟩),.int .i64 m,.func (.func 86) #[] #[.pointer (some ⟨p1,0,none⟩)]] w fun e w'=>TmP kdI (rowC 1 (by decide)) (fun x:RW Int=>intM x.z) (fun x:RW Int=>nnI x.z) n b B s m st w e w':=by
 obtain ⟨i0,hi0,hz0,hz1,hz2⟩:=info_parts qpa
 have H:=hI h
 have HS:=hI hs
 have HN:=hI h.i.hn
 have HI:=hI (TmI.start (kd:=kdI) (C:=(rowC 1 (by decide))) (pc:=(fun x:RW Int=>intM x.z)) (nn:=(fun x:RW Int=>nnI x.z)) (T:=26) h.i)
 clear h hs
 go_enter Tryz.func85,Tryz.ntmps85
 go_wp2_with fail
 go_loopw [7,9] (fun v i W=>∃ (k:Nat) (z:Array (RW Int)),i=.int .i64 (k:Int)∧k≤m∧Hid (z.size=k)∧Hid (TmI kdI (rowC 1 (by decide)) (fun x:RW Int=>intM x.z) (fun x:RW Int=>nnI x.z) 26 n b B s st w z v W)) (fun _ i _=>m - (intOf i).toNat)
 case atStart=>exact ⟨0,#[],rfl,Nat.zero_le _,hI rfl,HI⟩
 case round =>
  obtain ⟨k,z,rfl,hk,HZ,HT⟩:=hrel
  have VR:=hI (H.out.post HT.out.p)
  by_cases hlt:k < m
  ·have kz:(k:Int) < (m:Int):=by omega
   have c0:=VR.out.i.c0
   have HD:=hI (qfn b s _ wr VR.out.i.rd)
   by_cases he:(qan (((rowC 1 (by decide))).rd s.data.toList) z.size st).1.r.e=0
   ·have HD0:Hid (Calls Tryz.prog 41 #[.pointer (some ⟨b,0,none⟩)] wr fun e w'=>e=.returned .nilIface∧wr=w'):=HD.out.mono fun e w' ⟨ev,h1,h2,h3⟩=>by
     rcases h2 with ⟨_,rfl⟩ | ⟨h2,_⟩
     ·exact ⟨h1,h3⟩
     ·exact absurd he h2
    have HOF:=hI (marks_any VR.out HS.out)
    clear he HD
    go_wp2_with fail
    refine HD0.out.mono ?_
    rintro _ _ ⟨rfl,rfl⟩
    clear HD0
    go_wp2_with fail
    refine HOF.out.mono ?_
    rintro _ w5 ⟨x,rfl,hrd,hrw,hpc,hnn,hp⟩
    have X1:=hI hrd
    have X2:=hI hrw
    have X3:=hI hpc
    have X4:=hI hnn
    have X5:=hI hp
    have s5:w.heap.size≤w5.heap.size:=Nat.le_trans HT.out.p.2.size hp.2.size
    have hown2:=qbj (qdl HT.out.own hp.2 (by have:=hp.1.hb;have:=HN.out;omega) (by have:=hp.1.hB;have:=HN.out;omega)) (bel1 w5 (.cells (encW x).toArray 26))
    have hzs:z.size≤1000:=by have:=HZ.out;omega
    have HG:=hI (fun v' w7=>TmI.step (w5:=w5) (w7:=w7) (v':=v') HT.out HN.out H.out.ge (by decide) X1.out X2.out X3.out X4.out X5.out (.cells (encW x).toArray 26))
    clear hrd hrw hpc hnn hp HOF c0
    obtain ⟨xA,xc,xz⟩:=x
    simp only [RW.v]
    go_wp2_with (at_builtin;refine wpList_append_own_at _ rfl _ _ 25 rfl w.heap.size 26 i0 (.slice none 0 0) 1 24 Tryz.underlying25 hi0 hz0 hz1 hz2 rfl (by decide) _ _ _ rfl hown2 ⟨w5.heap.size,0,none⟩ 1 1 [.slice xA xz.size xc] rfl rfl (qcl w5 _ _) (by simp [Value.oneCell']) (by unfold maxLen;omega) (by omega) (by simp;omega) ?_;intro v' w7 hown3 hgrow _ hat)
    go_roundw
    case rel=>exact ⟨k + 1,z.push ⟨xA,xc,xz⟩,by go_num,by omega,hI (by rw [Array.size_push,HZ.out]),hI (HG.out v' w7 hown3 hgrow hat)⟩
    case measure=>simp [intOf];omega
   ·have HD0:Hid (Calls Tryz.prog 41 #[.pointer (some ⟨b,0,none⟩)] wr fun e w'=>(∃ t u,e=.returned (.iface t u))∧wr=w'):=HD.out.mono fun e w' ⟨ev,h1,h2,h3⟩=>by
     rcases h2 with ⟨h2,_⟩ | ⟨_,op,ops,_,h2⟩
     ·exact absurd h2 he
     ·obtain ⟨t,u,rfl⟩:=qct h2
      exact ⟨⟨t,u,h1⟩,h3⟩
    have HB:=hI (HT.out.bad (m:=m) (by have:=HZ.out;omega) he)
    clear he HD
    go_wp2_with fail
    refine HD0.out.mono ?_
    rintro _ _ ⟨⟨t,u,rfl⟩,rfl⟩
    clear HD0 c0
    go_wp2
    go_ret
    exact HB.out
  ·have kz:decide ((k:Int) < (m:Int))=false:=decide_eq_false (by omega)
   have HB:=hI (HT.out.done (m:=m) (by have:=HZ.out;omega))
   go_wp2
   go_ret
   exact HB.out
set_option maxHeartbeats 4000000 in
theorem qxy (n b B:Nat) (s:ByteArray) (p1 p3:Nat) (st:IS) (m:Nat) (w:World) (h:VRd n b B s p1 p3 st w) (hs:s.size≤1000000) (hm:m≤1000) :
 Calls Tryz.prog 88 #[.pointer (some ⟨B,0,none⟩),.int .i64 m,.func (.func 89) #[] #[.pointer (some ⟨p1,0,none⟩)]] w fun e w'=>TmP kdD (rowC 2 (by decide)) (fun x:RW (Int×Int)=>qbg x.z) (fun x:RW (Int×Int)=>nnP x.z) n b B s m st w e w':=by
 obtain ⟨i0,hi0,hz0,hz1,hz2⟩:=info_parts qmk
 have H:=hI h
 have HS:=hI hs
 have HN:=hI h.i.hn
 have HI:=hI (TmI.start (kd:=kdD) (C:=(rowC 2 (by decide))) (pc:=(fun x:RW (Int×Int)=>qbg x.z)) (nn:=(fun x:RW (Int×Int)=>nnP x.z)) (T:=79) h.i)
 clear h hs
 go_enter Tryz.func88,Tryz.ntmps88
 go_wp2_with fail
 go_loopw [7,9] (fun v i W=>∃ (k:Nat) (z:Array (RW (Int×Int))),i=.int .i64 (k:Int)∧k≤m∧Hid (z.size=k)∧Hid (TmI kdD (rowC 2 (by decide)) (fun x:RW (Int×Int)=>qbg x.z) (fun x:RW (Int×Int)=>nnP x.z) 79 n b B s st w z v W)) (fun _ i _=>m - (intOf i).toNat)
 case atStart=>exact ⟨0,#[],rfl,Nat.zero_le _,hI rfl,HI⟩
 case round =>
  obtain ⟨k,z,rfl,hk,HZ,HT⟩:=hrel
  have VR:=hI (H.out.post HT.out.p)
  by_cases hlt:k < m
  ·have kz:(k:Int) < (m:Int):=by omega
   have c0:=VR.out.i.c0
   have HD:=hI (qfn b s _ wr VR.out.i.rd)
   by_cases he:(qan (((rowC 2 (by decide))).rd s.data.toList) z.size st).1.r.e=0
   ·have HD0:Hid (Calls Tryz.prog 41 #[.pointer (some ⟨b,0,none⟩)] wr fun e w'=>e=.returned .nilIface∧wr=w'):=HD.out.mono fun e w' ⟨ev,h1,h2,h3⟩=>by
     rcases h2 with ⟨_,rfl⟩ | ⟨h2,_⟩
     ·exact ⟨h1,h3⟩
     ·exact absurd he h2
    have HOF:=hI (qxs VR.out HS.out)
    clear he HD
    go_wp2_with fail
    refine HD0.out.mono ?_
    rintro _ _ ⟨rfl,rfl⟩
    clear HD0
    go_wp2_with fail
    refine HOF.out.mono ?_
    rintro _ w5 ⟨x,rfl,hrd,hrw,hpc,hnn,hp⟩
    have X1:=hI hrd
    have X2:=hI hrw
    have X3:=hI hpc
    have X4:=hI hnn
    have X5:=hI hp
    have s5:w.heap.size≤w5.heap.size:=Nat.le_trans HT.out.p.2.size hp.2.size
    have hown2:=qbj (qdl HT.out.own hp.2 (by have:=hp.1.hb;have:=HN.out;omega) (by have:=hp.1.hB;have:=HN.out;omega)) (bel1 w5 (.cells (encW x).toArray 79))
    have hzs:z.size≤1000:=by have:=HZ.out;omega
    have HG:=hI (fun v' w7=>TmI.step (w5:=w5) (w7:=w7) (v':=v') HT.out HN.out H.out.ge (by decide) X1.out X2.out X3.out X4.out X5.out (.cells (encW x).toArray 79))
    clear hrd hrw hpc hnn hp HOF c0
    obtain ⟨xA,xc,xz⟩:=x
    simp only [RW.v]
    go_wp2_with (at_builtin;refine wpList_append_own_at _ rfl _ _ 27 rfl w.heap.size 79 i0 (.slice none 0 0) 1 24 Tryz.underlying27 hi0 hz0 hz1 hz2 rfl (by decide) _ _ _ rfl hown2 ⟨w5.heap.size,0,none⟩ 1 1 [.slice xA xz.size xc] rfl rfl (qcl w5 _ _) (by simp [Value.oneCell']) (by unfold maxLen;omega) (by omega) (by simp;omega) ?_;intro v' w7 hown3 hgrow _ hat)
    go_roundw
    case rel=>exact ⟨k + 1,z.push ⟨xA,xc,xz⟩,by go_num,by omega,hI (by rw [Array.size_push,HZ.out]),hI (HG.out v' w7 hown3 hgrow hat)⟩
    case measure=>simp [intOf];omega
   ·have HD0:Hid (Calls Tryz.prog 41 #[.pointer (some ⟨b,0,none⟩)] wr fun e w'=>(∃ t u,e=.returned (.iface t u))∧wr=w'):=HD.out.mono fun e w' ⟨ev,h1,h2,h3⟩=>by
     rcases h2 with ⟨h2,_⟩ | ⟨_,op,ops,_,h2⟩
     ·exact absurd h2 he
     ·obtain ⟨t,u,rfl⟩:=qct h2
      exact ⟨⟨t,u,h1⟩,h3⟩
    have HB:=hI (HT.out.bad (m:=m) (by have:=HZ.out;omega) he)
    clear he HD
    go_wp2_with fail
    refine HD0.out.mono ?_
    rintro _ _ ⟨⟨t,u,rfl⟩,rfl⟩
    clear HD0 c0
    go_wp2
    go_ret
    exact HB.out
  ·have kz:decide ((k:Int) < (m:Int))=false:=decide_eq_false (by omega)
   have HB:=hI (HT.out.done (m:=m) (by have:=HZ.out;omega))
   go_wp2
   go_ret
   exact HB.out
end Go.Proofs.YtnmojicfmcbgmaaGreatDoor
namespace Go.Proofs.YtnmojicfmcbgmaaGreatDoor
open Go.RowKit Go.Sort Go.Lib Nb
set_option maxRecDepth 100000
structure KF (m:Nat) (W W':World):Prop where
 size:W.heap.size≤W'.heap.size
 block:∀ i,m≤i→i < W.heap.size→W'.heap[i]?=W.heap[i]?
theorem KF.refl (m:Nat) (W:World):KF m W W:=⟨Nat.le_refl _,fun _ _ _=>rfl⟩
theorem KF.trans {m:Nat} {a b c:World} (h:KF m a b) (k:KF m b c):KF m a c:=⟨Nat.le_trans h.size k.size,fun i h1 h2=>(k.block i h1 (Nat.lt_of_lt_of_le h2 h.size)).trans (h.block i h1 h2)⟩
theorem KF.mono {m m':Nat} {a b:World} (h:KF m a b) (hm:m≤m'):KF m' a b:=⟨h.size,fun i h1 h2=>h.block i (by omega) h2⟩
theorem KF.of_post {m n b B:Nat} {s:ByteArray} {st:IS} {W W':World} (h:IPost n b B s st W W') (hm:n≤m):KF m W W':=⟨h.2.size,fun i h1 h2=>h.2.block i h2 (by have:=h.1.hb;omega) (by have:=h.1.hB;omega)⟩
theorem KF.of_grown {m g:Nat} {W W':World} (h:W.grownBy W' (some g)) (hm:g < m):KF m W W':=⟨h.size,fun i h1 h2=>h.block i h2 (by intro e;injection e with e;omega)⟩
theorem KF.of_below {m:Nat} {W W':World} (h:Below W.heap.size W W'):KF m W W':=⟨h.size,fun i _ h2=>h.block i h2⟩
structure RdX {α:Type} [Inhabited α] (kd:KD α) (m:Nat) (x:RW α) (W:World):Prop where
 rd:RdK kd.en kd.k W.heap.size W x.A x.z
 cz:x.z.size≤x.c
 no:x.A=none→x.c=0
 fr:Fr m x.A
 el:∀ i,i < x.z.size→kd.rd W x.z[i]!∧∀ blk,kd.rw x.z[i]! blk→m≤blk
theorem RdK.kf {α:Type} [Inhabited α] {en:α→List Value} {k m:Nat} {W W':World} {A:Option Addr} {d:Array α} (h:RdK en k W.heap.size W A d) (hA:Fr m A) (hk:KF m W W'):RdK en k W'.heap.size W' A d:=h.keepB hk.size (fun blk hb=>hk.block blk (hb.fr hA) (h.ltB hb))
theorem RdI_R.kf {m:Nat} {W W':World} {A:Option Addr} {d:Array Int} (h:RdI_R W.heap.size W A d) (hA:Fr m A) (hk:KF m W W'):RdI_R W'.heap.size W' A d:=h.keepB hk.size (fun blk hb=>hk.block blk (hb.fr hA) (h.ltB hb))
theorem RdX.kf {α:Type} [Inhabited α] {kd:KD α} {m:Nat} {x:RW α} {W W':World} (h:RdX kd m x W) (hk:KF m W W'):RdX kd m x W' :=
 ⟨h.rd.kf h.fr hk,h.cz,h.no,h.fr,fun i hi=>⟨kd.keep (h.el i hi).1 hk.size (fun blk hb=>hk.block blk ((h.el i hi).2 blk hb) (kd.lt (h.el i hi).1 hb)),(h.el i hi).2⟩⟩
theorem RdX.mono {α:Type} [Inhabited α] {kd:KD α} {m m':Nat} {x:RW α} {W:World} (h:RdX kd m x W) (hm:m'≤m):RdX kd m' x W:=⟨h.rd,h.cz,h.no,h.fr.mono hm,fun i hi=>⟨(h.el i hi).1,fun blk hb=>Nat.le_trans hm ((h.el i hi).2 blk hb)⟩⟩
def LsP {α β:Type} [Inhabited α] (kd:KD α) (pc:α→β) (nn:α→Prop) (n b B:Nat) (s:ByteArray) (r:IS×List β) (w:World) (e:Ending) (w':World):Prop :=
 ∃ x:RW α,e=.returned (.slice x.A x.z.size x.c)∧RdX kd w.heap.size x w'∧(r.1.r.e=0→x.z.toList.map pc=r.2∧∀ y ∈ x.z.toList,nn y)∧IPost n b B s r.1 w w'
theorem TmP.ls {α β:Type} [Inhabited α] {kd:KD α} {C:Cod β} {pc:α→β} {nn:α→Prop} {n b B:Nat} {s:ByteArray} {m:Nat} {st:IS} {w w':World} {e:Ending} (h:TmP kd C pc nn n b B s m st w e w'):LsP kd pc nn n b B s (qan (C.rd s.data.toList) m st) w e w':=by
 obtain ⟨x,h1,h2,h3,h4,h5,h6,h7,h8⟩:=h
 exact ⟨x,h1,⟨h2,h3,h4,h5,h6⟩,h7,h8⟩
theorem qjv {α:Type} {c:Cod α} {most:Nat} {hm:most≤9223372036854775807} {s:List UInt8} {st st1:IS} {m:Nat} (e0:(numC most hm).rd s st=(st1,m)):(c.list most hm).rd s st=qan (c.rd s) m st1:=by
 show ((((c.vec ((numC most hm).rd s st).2).rd s ((numC most hm).rd s st).1).1,((c.vec ((numC most hm).rd s st).2).rd s ((numC most hm).rd s st).1).2))=_
 rw [e0]
 rfl
theorem qgx {most:Nat} {hm:most≤9223372036854775807} {s:List UInt8} {st st1:IS} {m:Nat} (e0:(numC most hm).rd s st=(st1,m)):m≤most:=by
 have h1:(numR s most st.r).2=m:=congrArg (fun q=>q.2) e0
 rw [←h1]
 unfold numR
 split
 ·exact Nat.zero_le _
 ·split
  ·exact Nat.zero_le _
  ·split
   ·exact Nat.zero_le _
   ·simp only;omega
theorem qix {n b B p1 p3:Nat} {s:ByteArray} {st:IS} {w:World} (most:Nat) (hm:most≤9223372036854775807) (h:VRd n b B s p1 p3 st w) (hs:s.size≤1000000) {st':IS} {x:Nat} (hx:(numC most hm).rd s.data.toList st=(st',x)) :
 Calls Tryz.prog 77 #[.pointer (some ⟨b,0,none⟩),.int .i64 most] w fun e w'=>e=.returned (.int .i64 (x:Int))∧IPost n b B s st' w w':=by
 have:=qvy b s st.r most w h.i.rd h.i.gl hs
 have e1:(numR s.data.toList most st.r).1=st'.r:=by have:=congrArg (fun q=>q.1.r) hx;exact this
 have e2:(numR s.data.toList most st.r).2=x:=congrArg (fun q=>q.2) hx
 have e3:st.odd=st'.odd:=by have:=congrArg (fun q=>q.1.odd) hx;exact this
 rw [e2,e1] at this
 refine this.mono ?_
 rintro e w' ⟨h1,h2⟩
 have h3:=h.i.rpost h2
 rw [e3] at h3
 exact ⟨h1,h3,h2.gr2⟩
theorem qgd (w:World) (a b o:Obj):(((w.alloc a).alloc b).alloc o).heap[w.heap.size + 1 + 1]?=some o:=by
 have:=qah ((w.alloc a).alloc b) o
 simpa using this
theorem qia (w:World) (a b c o:Obj):((((w.alloc a).alloc b).alloc c).alloc o).heap[w.heap.size + 1 + 1 + 1]?=some o:=by
 have:=qah (((w.alloc a).alloc b).alloc c) o
 simpa using this
theorem VRd.box {n b B p1 p3 g:Nat} {s:ByteArray} {st:IS} {w w':World} (h:VRd n b B s p1 p3 st w) (hi:IRd n b B s st w') (hg:w.grownBy w' (some g)) (h1:p1≠g) (h3:p3≠g):VRd n b B s p1 p3 st w' :=
 ⟨hi,hg.cell h.v1 (by intro e;injection e with e;exact h1 e),hg.cell h.v3 (by intro e;injection e with e;exact h3 e),h.h1,h.h3,h.ge⟩
theorem hmf_X:∀ (fn:Fn) (first cap:Array Value) (w:World),(Instr.makeFunc fn first cap).run Tryz.prog w=.ok (.func fn first cap) w:=fun _ _ _ _=>rfl
set_option maxHeartbeats 4000000 in
theorem qos (n b B:Nat) (s:ByteArray) (st:IS) (w:World) (h:IRd n b B s st w) (hge:0 < n) (hs:s.size≤1000000) :
 Calls Tryz.prog 78 #[.pointer (some ⟨B,0,none⟩)] w fun e w'=>LsP kdE entM nnE n b B s ((enC.list 1000 (by decide)).rd s.data.toList st) w e w':=by
 rcases e0:(numC 1000 (by decide)).rd s.data.toList st with ⟨st1,m⟩
 have EE:Hid ((enC.list 1000 (by decide)).rd s.data.toList st=qan (enC.rd s.data.toList) m st1):=qjv e0
 have HM:=hI (qgx e0)
 have E0:=hI e0
 rw [EE.out]
 have H:=hI h
 have HS:=hI hs
 have HGE:=hI hge
 have HQN:=hI h.hn
 have hmf:=hmf_X
 clear h hs hge e0
 go_enter Tryz.func78,Tryz.ntmps78
 go_upto_region 2 with (fail)
 obtain ⟨w0,hw0⟩:∃ W,W=((w.alloc (.cells #[.pointer (some ⟨B,0,none⟩)] 88)).alloc (.cells #[.func (.func 76) #[.pointer (some ⟨B,0,none⟩)] #[]] 150)):=⟨_,rfl⟩
 rw [←hw0]
 have B00:Hid (Below w.heap.size w w0):=by show Below _ _ _;rw [hw0];exact qad (bel1 w _) _
 have Q1:Hid (w0.heap[w.heap.size]?=some (.cells #[.pointer (some ⟨B,0,none⟩)] 88 (0,0))):=by show _=_;rw [hw0];exact qay (qah w _) _
 have Q3:Hid (w0.heap[w.heap.size + 1]?=some (.cells #[.func (.func 76) #[.pointer (some ⟨B,0,none⟩)] #[]] 150 (0,0))):=by show _=_;rw [hw0];exact qcg w _ _
 have V00:Hid (VRd n b B s w.heap.size (w.heap.size + 1) st w0):=⟨H.out.below B00.out,(qab Q1.out 0).trans rfl,(qab Q3.out 0).trans rfl,HQN.out,by have:=HQN.out;omega,HGE.out⟩
 clear hw0
 obtain ⟨p3,hp3⟩:∃ p,p=w.heap.size + 1:=⟨_,rfl⟩
 rw [←hp3] at V00 ⊢
 obtain ⟨p1,hp1⟩:∃ p,p=w.heap.size:=⟨_,rfl⟩
 rw [←hp1] at V00 ⊢
 clear hp1 hp3 Q1 Q3
 go_wp2_with fail
 refine qat (S:=fun W=>W.cell? ⟨p1,0,none⟩=some (.pointer (some ⟨B,0,none⟩))∧W.cell? ⟨p3,0,none⟩=some (.func (.func 76) #[.pointer (some ⟨B,0,none⟩)] #[])∧W.cell? ⟨B,0,none⟩=some (.pointer (some ⟨b,0,none⟩))) (by kernel_rfl) ?_
 have V0:=hI (V00.out.below (Below.refl w0.heap.size w0).drew)
 have P0:=hI ((IPost.of_below H.out B00.out).below (Below.refl w0.heap.size w0).drew)
 clear V00
 have hS:=V0.out.sw
 unfold SW at hS
 refine tkF 6 0 rfl rfl hS ?_
 simp only [Act.put,sA,s0,s1]
 refine tkF 7 1 rfl rfl hS ?_
 simp only [Act.put,sA,s0,s1]
 refine tkF 8 2 rfl rfl hS ?_
 simp only [Act.put,sA,s0,s1]
 refine tkF 9 3 rfl rfl hS ?_
 simp only [Act.put,sA,s0,s1]
 refine tkF 10 4 rfl rfl hS ?_
 simp only [Act.put,sA,s0,s1]
 refine tkF 12 6 rfl rfl hS ?_
 simp only [Act.put,sA,s0,s1]
 refine rdy1 5 rfl (fun K hK=>?_)
 go_simp
 refine (qix 1000 _ V0.out HS.out E0.out).mono ?_
 rintro _ w1 ⟨rfl,hp⟩
 have V1:=hI (V0.out.post hp)
 have P1:=hI (P0.out.trans hp)
 clear hp
 refine hK.out _ _ V1.out.sw (fun _=>?_)
 clear hK K
 refine rdy1 7 rfl (fun K hK=>?_)
 go_simp
 refine (qxt n b B s p1 p3 st1 m w1 V1.out HS.out HM.out).mono ?_
 rintro _ w2 hT
 obtain ⟨x,rfl,hx,hms,hp⟩:=hT.ls
 have HX:=hI (hx.mono P1.out.2.size)
 have HMS:=hI hms
 have P2:=hI (P1.out.trans hp)
 have V2:=hI (V1.out.post hp)
 clear hp hx hms hT
 refine hK.out _ _ V2.out.sw (fun _=>?_)
 clear hK K
 have hS:=V2.out.sw
 unfold SW at hS
 refine tkF 2 8 rfl rfl hS ?_
 simp only [Act.put,List.setIfInBounds_toArray]
 refine qas (by kernel_rfl) ?_ _
 go_wp2
 go_ret
 exact ⟨x,rfl,HX.out,HMS.out,P2.out⟩
theorem qbn {α:Type} {c:Cod α} {s:List UInt8} {st st':IS} {x:α} (h:c.rd s st=(st',x)) (he:st'.r.e=0):st.r.e=0:=by
 by_cases h0:st.r.e=0
 ·exact h0
 ·have:=c.stuck s st h0
  rw [h] at this
  simp only at this
  rw [this] at he
  exact he
def StoP (n b B:Nat) (s:ByteArray) (r:IS×(List (List Nat)×List SeT)) (w:World) (e:Ending) (w':World):Prop :=
 ∃ (x:RW IT) (y:RW SS),e=.returned (.agg #[.slice x.A x.z.size x.c,.slice y.A y.z.size y.c])∧RdX kdT w.heap.size x w'∧RdX kdS w.heap.size y w' ∧
  (r.1.r.e=0→(x.z.toList.map itM=r.2.1∧∀ z ∈ x.z.toList,nnT z)∧(y.z.toList.map seM=r.2.2∧∀ z ∈ y.z.toList,nnS z))∧IPost n b B s r.1 w w'
set_option maxHeartbeats 8000000 in
theorem qxz (n b B:Nat) (s:ByteArray) (st:IS) (w:World) (h:IRd n b B s st w) (hge:0 < n) (hs:s.size≤1000000) :
 Calls Tryz.prog 90 #[.pointer (some ⟨B,0,none⟩)] w fun e w'=>StoP n b B s ((((nC.vec 4).list 1000 (by decide)).pair (seC.list 1000 (by decide))).rd s.data.toList st) w e w':=by
 rcases e0:(numC 1000 (by decide)).rd s.data.toList st with ⟨st1,m1⟩
 rcases e1:qan ((nC.vec 4).rd s.data.toList) m1 st1 with ⟨st2,g1⟩
 rcases e2:(numC 1000 (by decide)).rd s.data.toList st2 with ⟨st3,m2⟩
 rcases e3:qan (seC.rd s.data.toList) m2 st3 with ⟨st4,g2⟩
 have l1:((nC.vec 4).list 1000 (by decide)).rd s.data.toList st=(st2,g1):=(qjv e0).trans e1
 have l2:(seC.list 1000 (by decide)).rd s.data.toList st2=(st4,g2):=(qjv e2).trans e3
 have EE:Hid ((((nC.vec 4).list 1000 (by decide)).pair (seC.list 1000 (by decide))).rd s.data.toList st=(st4,(g1,g2))):=qcb l1 l2
 have HBK:Hid (st4.r.e=0→st2.r.e=0):=fun h0=>qbn l2 h0
 have HM1:=hI (qgx e0)
 have HM2:=hI (qgx e2)
 have E0:=hI e0
 have E1:=hI e1
 have E2:=hI e2
 have E3:=hI e3
 rw [EE.out]
 have H:=hI h
 have HS:=hI hs
 have HGE:=hI hge
 have HQN:=hI h.hn
 have hmf:=hmf_X
 clear h hs hge e0 e1 e2 e3 l1 l2
 go_enter Tryz.func90,Tryz.ntmps90
 go_upto_region 3 with (fail)
 obtain ⟨w0,hw0⟩:∃ W,W=((((w.alloc (.cells #[.pointer (some ⟨B,0,none⟩)] 88)).alloc (.cells #[.slice none 0 0,.slice none 0 0] 33)).alloc (.cells #[.func (.func 76) #[.pointer (some ⟨B,0,none⟩)] #[]] 150)).alloc (.cells #[.slice none 0 0,.slice none 0 0] 33)):=⟨_,rfl⟩
 rw [←hw0]
 have B00:Hid (Below w.heap.size w w0):=by show Below _ _ _;rw [hw0];exact qad (qad (qad (bel1 w _) _) _) _
 have Q1:Hid (w0.heap[w.heap.size]?=some (.cells #[.pointer (some ⟨B,0,none⟩)] 88 (0,0))):=by show _=_;rw [hw0];exact qay (qay (qay (qah w _) _) _) _
 have O0:Hid (w0.heap[w.heap.size + 1]?=some (.cells #[.slice none 0 0,.slice none 0 0] 33 (0,0))):=by show _=_;rw [hw0];exact qay (qay (qcg w _ _) _) _
 have Q3:Hid (w0.heap[w.heap.size + 1 + 1]?=some (.cells #[.func (.func 76) #[.pointer (some ⟨B,0,none⟩)] #[]] 150 (0,0))):=by show _=_;rw [hw0];exact qay (qgd w _ _ _) _
 have R0:Hid (w0.heap[w.heap.size + 1 + 1 + 1]?=some (.cells #[.slice none 0 0,.slice none 0 0] 33 (0,0))):=by show _=_;rw [hw0];exact qia w _ _ _ _
 have V00:Hid (VRd n b B s w.heap.size (w.heap.size + 1 + 1) st w0):=⟨H.out.below B00.out,(qab Q1.out 0).trans rfl,(qab Q3.out 0).trans rfl,HQN.out,by have:=HQN.out;omega,HGE.out⟩
 clear hw0
 obtain ⟨q,hq⟩:∃ p,p=w.heap.size + 1 + 1 + 1:=⟨_,rfl⟩
 rw [←hq] at R0 ⊢
 obtain ⟨p3,hp3⟩:∃ p,p=w.heap.size + 1 + 1:=⟨_,rfl⟩
 rw [←hp3] at V00 ⊢
 obtain ⟨r,hr⟩:∃ p,p=w.heap.size + 1:=⟨_,rfl⟩
 rw [←hr] at O0 ⊢
 obtain ⟨p1,hp1⟩:∃ p,p=w.heap.size:=⟨_,rfl⟩
 rw [←hp1] at V00 ⊢
 have QN:Hid (n≤q∧n≤r∧r < q∧w.heap.size≤r∧p1≠q∧p3≠q):=by have:=HQN.out;exact ⟨by omega,by omega,by omega,by omega,by omega,by omega⟩
 clear hq hp3 hr hp1 Q1 Q3
 have V0:=V00
 have P0:=hI (IPost.of_below H.out B00.out)
 go_wp2_with fail
 refine qat (S:=fun W=>W.cell? ⟨p1,0,none⟩=some (.pointer (some ⟨B,0,none⟩))∧W.cell? ⟨p3,0,none⟩=some (.func (.func 76) #[.pointer (some ⟨B,0,none⟩)] #[])∧W.cell? ⟨B,0,none⟩=some (.pointer (some ⟨b,0,none⟩))) (by kernel_rfl) ?_
 have hbd:=(Below.refl w0.heap.size w0).drew
 have Vd:=hI (V0.out.below hbd)
 have Pd:=hI (P0.out.below hbd)
 have Rd:=hI ((hbd.block _ (qaa R0.out)).trans R0.out)
 have Od:=hI ((hbd.block _ (qaa O0.out)).trans O0.out)
 clear hbd
 have hS:=Vd.out.sw
 unfold SW at hS
 refine tkF 7 0 rfl rfl hS ?_
 simp only [Act.put,sA,s0,s1]
 refine tkF 8 1 rfl rfl hS ?_
 simp only [Act.put,sA,s0,s1]
 refine tkF 9 2 rfl rfl hS ?_
 simp only [Act.put,sA,s0,s1]
 refine tkF 10 3 rfl rfl hS ?_
 simp only [Act.put,sA,s0,s1]
 refine tkF 11 4 rfl rfl hS ?_
 simp only [Act.put,sA,s0,s1]
 refine tkF 13 6 rfl rfl hS ?_
 simp only [Act.put,sA,s0,s1]
 refine rdy1 5 rfl (fun K hK=>?_)
 go_simp
 refine (qix 1000 _ Vd.out HS.out E0.out).mono ?_
 rintro _ wa0 ⟨rfl,hp⟩
 have Va:=hI (Vd.out.post hp)
 have Pa:=hI (Pd.out.trans hp)
 have Ra:=hI (hp.heap Rd.out QN.out.1)
 have Oa:=hI (hp.heap Od.out QN.out.2.1)
 clear hp
 refine hK.out _ _ Va.out.sw (fun _=>?_)
 clear hK K
 refine rdy1 7 rfl (fun K hK=>?_)
 go_simp
 refine (qxv n b B s p1 p3 _ m1 wa0 Va.out HS.out HM1.out).mono ?_
 rintro _ wb0 hT
 obtain ⟨x,rfl,hx,hms,hp⟩:=hT.ls
 rw [E1.out] at hms hp
 simp only at hms hp
 have X1:=hI hx
 have M1:=hI hms
 have HMA1:Hid (w.heap.size≤wa0.heap.size∧n≤wa0.heap.size∧q < wa0.heap.size∧r < wa0.heap.size):=⟨Pa.out.2.size,Nat.le_trans HQN.out Pa.out.2.size,qaa Ra.out,qaa Oa.out⟩
 have Vb:=hI (Va.out.post hp)
 have Pb:=hI (Pa.out.trans hp)
 have Rb:=hI (hp.heap Ra.out QN.out.1)
 have Ob:=hI (hp.heap Oa.out QN.out.2.1)
 clear hp hx hms hT
 refine hK.out _ _ Vb.out.sw (fun _=>?_)
 clear hK K
 have hS:=Vb.out.sw
 unfold SW at hS
 refine tkF 15 8 rfl rfl hS ?_
 simp only [Act.put,sA,s0,s1]
 have cc:=(qab Rb.out 0).trans rfl
 have ff:=Lib.frozen_of_heap Rb.out 0
 refine rdyL 9 rfl (fun K hK=>?_)
 go_simp
 refine hK.out _ _ ?_
 clear hK K cc ff
 refine qas (by kernel_rfl) ?_ _
 go_upto_region 4 with (fail)
 have hg:wb0.grownBy (wb0.setCell ⟨q,0,none⟩ (.slice x.A x.z.size x.c)) (some q):=qal (World.grownBy.refl _ _) rfl _
 have P1:=hI (Pb.out.box Rb.out (by decide) (by have:=QN.out.2.2.1;have:=QN.out.2.2.2.1;omega) HQN.out HGE.out hg)
 have V1:=hI (Vb.out.box P1.out.1 hg QN.out.2.2.2.2.1 QN.out.2.2.2.2.2)
 have R1:=hI (qaj Rb.out 0 (.slice x.A x.z.size x.c))
 have O1:=hI ((hg.block _ (qaa Ob.out) (by intro e;injection e with e;have:=QN.out.2.2;omega)).trans Ob.out)
 have X1:=hI (X1.out.kf (KF.of_grown hg HMA1.out.2.2.1))
 obtain ⟨w1,hw1⟩:∃ W,W=wb0.setCell ⟨q,0,none⟩ (.slice x.A x.z.size x.c):=⟨_,rfl⟩
 rw [←hw1] at P1 V1 R1 O1 X1 ⊢
 clear hw1 hg Va Vb Pa Pb Ra Rb Oa Ob Vd Pd Rd Od V0 P0 R0 O0
 go_wp2_with fail
 refine qat (S:=fun W=>W.cell? ⟨p1,0,none⟩=some (.pointer (some ⟨B,0,none⟩))∧W.cell? ⟨p3,0,none⟩=some (.func (.func 76) #[.pointer (some ⟨B,0,none⟩)] #[])∧W.cell? ⟨B,0,none⟩=some (.pointer (some ⟨b,0,none⟩))) (by kernel_rfl) ?_
 have hbd:=(Below.refl w1.heap.size w1).drew
 have Vd:=hI (V1.out.below hbd)
 have Pd:=hI (P1.out.below hbd)
 have Rd:=hI ((hbd.block _ (qaa R1.out)).trans R1.out)
 have Od:=hI ((hbd.block _ (qaa O1.out)).trans O1.out)
 have X1:=hI (X1.out.kf (KF.of_below hbd))
 clear hbd
 have hS:=Vd.out.sw
 unfold SW at hS
 refine tkF 16 0 rfl rfl hS ?_
 simp only [Act.put,sA,s0,s1]
 refine tkF 17 1 rfl rfl hS ?_
 simp only [Act.put,sA,s0,s1]
 refine tkF 18 2 rfl rfl hS ?_
 simp only [Act.put,sA,s0,s1]
 refine tkF 19 3 rfl rfl hS ?_
 simp only [Act.put,sA,s0,s1]
 refine tkF 20 4 rfl rfl hS ?_
 simp only [Act.put,sA,s0,s1]
 refine tkF 22 6 rfl rfl hS ?_
 simp only [Act.put,sA,s0,s1]
 refine rdy1 5 rfl (fun K hK=>?_)
 go_simp
 refine (qix 1000 _ Vd.out HS.out E2.out).mono ?_
 rintro _ wa1 ⟨rfl,hp⟩
 have Va:=hI (Vd.out.post hp)
 have Pa:=hI (Pd.out.trans hp)
 have Ra:=hI (hp.heap Rd.out QN.out.1)
 have Oa:=hI (hp.heap Od.out QN.out.2.1)
 have X1:=hI (X1.out.kf (KF.of_post hp HMA1.out.2.1))
 clear hp
 refine hK.out _ _ Va.out.sw (fun _=>?_)
 clear hK K
 refine rdy1 7 rfl (fun K hK=>?_)
 go_simp
 refine (qxw n b B s p1 p3 _ m2 wa1 Va.out HS.out HM2.out).mono ?_
 rintro _ wb1 hT
 obtain ⟨y,rfl,hx,hms,hp⟩:=hT.ls
 rw [E3.out] at hms hp
 simp only at hms hp
 have X2:=hI hx
 have M2:=hI hms
 have HMA2:Hid (w.heap.size≤wa1.heap.size∧n≤wa1.heap.size∧q < wa1.heap.size∧r < wa1.heap.size):=⟨Pa.out.2.size,Nat.le_trans HQN.out Pa.out.2.size,qaa Ra.out,qaa Oa.out⟩
 have Vb:=hI (Va.out.post hp)
 have Pb:=hI (Pa.out.trans hp)
 have Rb:=hI (hp.heap Ra.out QN.out.1)
 have Ob:=hI (hp.heap Oa.out QN.out.2.1)
 have X1:=hI (X1.out.kf (KF.of_post hp HMA1.out.2.1))
 clear hp hx hms hT
 refine hK.out _ _ Vb.out.sw (fun _=>?_)
 clear hK K
 have hS:=Vb.out.sw
 unfold SW at hS
 refine tkF 24 8 rfl rfl hS ?_
 simp only [Act.put,sA,s0,s1]
 have cc:=(qab Rb.out 1).trans rfl
 have ff:=Lib.frozen_of_heap Rb.out 1
 refine rdyL 9 rfl (fun K hK=>?_)
 go_simp
 refine hK.out _ _ ?_
 clear hK K cc ff
 refine qas (by kernel_rfl) ?_ _
 go_upto_region 5 with (fail)
 have hg:wb1.grownBy (wb1.setCell ⟨q,1,none⟩ (.slice y.A y.z.size y.c)) (some q):=qal (World.grownBy.refl _ _) rfl _
 have P2:=hI (Pb.out.box Rb.out (by decide) (by have:=QN.out.2.2.1;have:=QN.out.2.2.2.1;omega) HQN.out HGE.out hg)
 have V2:=hI (Vb.out.box P2.out.1 hg QN.out.2.2.2.2.1 QN.out.2.2.2.2.2)
 have R2:=hI (qaj Rb.out 1 (.slice y.A y.z.size y.c))
 have O2:=hI ((hg.block _ (qaa Ob.out) (by intro e;injection e with e;have:=QN.out.2.2;omega)).trans Ob.out)
 have X1:=hI (X1.out.kf (KF.of_grown hg HMA1.out.2.2.1))
 have X2:=hI (X2.out.kf (KF.of_grown hg HMA2.out.2.2.1))
 obtain ⟨w2,hw2⟩:∃ W,W=wb1.setCell ⟨q,1,none⟩ (.slice y.A y.z.size y.c):=⟨_,rfl⟩
 rw [←hw2] at P2 V2 R2 O2 X1 X2 ⊢
 clear hw2 hg Va Vb Pa Pb Ra Rb Oa Ob Vd Pd Rd Od V1 P1 R1 O1
 have d0:=(qab R2.out 0).trans rfl
 have d1:=(qab R2.out 1).trans rfl
 have o0:=(qab O2.out 0).trans rfl
 have o1:=(qab O2.out 1).trans rfl
 have f0:=Lib.frozen_of_heap O2.out 0
 have f1:=Lib.frozen_of_heap O2.out 1
 have hl:=qaa O2.out
 go_wp2
 have hE:((w2.setCell ⟨r,0,none⟩ (.slice x.A x.z.size x.c)).setCell ⟨r,1,none⟩ (.slice y.A y.z.size y.c)).heap[r]?=some (.cells #[.slice x.A x.z.size x.c,.slice y.A y.z.size y.c] 33 (0,0)):=qaj (qaj O2.out 0 _) 1 _
 have k0:=(qab hE 0).trans rfl
 have k1:=(qab hE 1).trans rfl
 refine bodyPost_ret (v:=.agg #[.slice x.A x.z.size x.c,.slice y.A y.z.size y.c]) (by simp [results,Tryz.results90,go_sem,k0,k1]) rfl ?_
 have hg:w2.grownBy ((w2.setCell ⟨r,0,none⟩ (.slice x.A x.z.size x.c)).setCell ⟨r,1,none⟩ (.slice y.A y.z.size y.c)) (some r):=by
  repeat' (first | exact World.grownBy.refl _ _ | (refine qal ?_ rfl _))
 refine ⟨x,y,rfl,(X1.out.kf (KF.of_grown hg HMA1.out.2.2.2)).mono HMA1.out.1,(X2.out.kf (KF.of_grown hg HMA2.out.2.2.2)).mono HMA2.out.1,fun h0=>⟨M1.out (HBK.out h0),M2.out h0⟩,P2.out.box O2.out (by decide) QN.out.2.2.2.1 HQN.out HGE.out hg⟩
end Go.Proofs.YtnmojicfmcbgmaaGreatDoor
namespace Go.Proofs.YtnmojicfmcbgmaaGreatDoor
open Go.RowKit Go.Sort Go.Lib Nb
set_option maxRecDepth 100000
structure WW (w0:World) (b:Nat) (l:List UInt8) (w:World):Prop where
 h:Wrt w0.heap.size b l w
 b:Below w0.heap.size w0 w
theorem WW.lt {w0 w:World} {b:Nat} {l:List UInt8} (h:WW w0 b l w):b < w.heap.size:=Bld.lt h.h
theorem WW.step {w0 w w':World} {b:Nat} {l:List UInt8} (h:WW w0 b l w) (hb:Below w.heap.size w w'):WW w0 b l w':=⟨h.h.below hb,qac h.b hb⟩
theorem WW.of {w0 w w':World} {b:Nat} {l l':List UInt8} (h:WW w0 b l w) (h1:Wrt w0.heap.size b l' w') (h2:Below w0.heap.size w w'):WW w0 b l' w':=⟨h1,h.b.trans h2⟩
theorem qew {b g:Nat} {w w':World} {cs:Array Value} {t:TypeId} (h:KeepT b w w') (hne:g≠b) (ht:t≠5) (hg:w.heap[g]?=some (.cells cs t (0,0))):w'.heap[g]?=some (.cells cs t (0,0)):=h g cs t _ hne ht hg
theorem wnum {w0 w:World} {b g c:Nat} {l:List UInt8} (xs:List Int) (h:WW w0 b l w) (hg:w.heap[g]?=some (.cells (xs.map (Value.int .i64)).toArray 3 (0,0))) (hx:∀ x ∈ xs,may6 x) (hs:xs.length≤1000) (hl:l.length≤800000000) (hne:g≠b) :
 Calls Tryz.prog 22 #[.pointer (some ⟨b,0,none⟩),.slice (some ⟨g,0,none⟩) xs.length c] w fun e w'=>e=.returned (.tuple #[])∧WW w0 b (l ++ (xs.map Int.toNat).flatMap numB) w'∧Below w0.heap.size w w'∧KeepT b w w':=by
 have:=WNum_any w0.heap.size b l g c xs.toArray w h.h (by rw [hg];simp [encI]) (qhz hx) (by simp;omega) (by omega) h.b.size hne
 rw [qiv] at this
 simp only [List.size_toArray] at this
 exact this.mono fun e w' ⟨h1,h2,h3,h4⟩=>⟨h1,h.of h2 h3,h3,h4⟩
theorem wtext {w0 w:World} {b:Nat} {l:List UInt8} (s:ByteArray) (h:WW w0 b l w) (hs:s.size≤1000) (hl:l.length≤800000000) :
 Calls Tryz.prog 64 #[.pointer (some ⟨b,0,none⟩),.string s] w fun e w'=>e=.returned (.tuple #[])∧WW w0 b (l ++ qea s.data.toList) w'∧Below w0.heap.size w w'∧KeepT b w w' :=
 (WText_any w0.heap.size b l s w h.h (by omega) h.b.size).mono fun e w' ⟨h1,h2,h3,h4⟩=>⟨h1,h.of h2 h3,h3,h4⟩
theorem wrow {w0 w:World} {b:Nat} {l:List UInt8} (A:Option Addr) (c:Nat) (d:Array Int) (h:WW w0 b l w) (hr:RdI_R w.heap.size w A d) (hm:∀ x ∈ d.toList,may6 x) (hs:d.size≤1000) (hl:l.length≤800000000) :
 Calls Tryz.prog 67 #[.pointer (some ⟨b,0,none⟩),.slice A d.size c] w fun e w'=>e=.returned (.tuple #[])∧WW w0 b (l ++ rowB (intM d).flatten) w'∧Below w0.heap.size w w'∧KeepT b w w':=by
 have hd:LayN d:=by have:=qhz hm;simpa using this
 have e:nats d=(intM d).flatten:=by
  unfold nats intM
  rw [←List.flatMap_def]
  induction d.toList with
  | nil=>rfl
  | cons x r ih=>simp only [List.map_cons,List.flatMap_cons,ih];rfl
 rw [←e]
 exact (qkt w0.heap.size b l A c d w h.h hr hd (by omega) (by omega) h.b.size).mono fun e w' ⟨h1,h2,h3,h4⟩=>⟨h1,h.of h2 h3,h3,h4⟩
theorem wrowA {w0 w:World} {b:Nat} {l:List UInt8} (A:Option Addr) (c:Nat) (d:Array (Int×Int)) (h:WW w0 b l w) (hr:RdK qbe 2 w.heap.size w A d) (hm:∀ x ∈ d.toList,may6 x.1∧may6 x.2) (hs:d.size≤1000) (hl:l.length≤800000000) :
 Calls Tryz.prog 24 #[.pointer (some ⟨b,0,none⟩),.slice A d.size c,.func (.func 25) #[] #[]] w fun e w'=>e=.returned (.tuple #[])∧WW w0 b (l ++ rowB (qbg d).flatten) w'∧Below w0.heap.size w w'∧KeepT b w w' :=
 (rowA_any w0.heap.size b l A c d w h.h hr hm hs hl h.b.size).mono fun _ _ ⟨h1,h2,h3,h4⟩=>⟨h1,h.of h2 h3,h3,h4⟩
theorem wrowR {w0 w:World} {b:Nat} {l:List UInt8} (A:Option Addr) (c:Nat) (d:Array (Int×Int)) (h:WW w0 b l w) (hr:RdK encR 2 w.heap.size w A d) (hm:∀ x ∈ d.toList,may6 x.1∧may6 x.2) (hs:d.size≤1000) (hl:l.length≤800000000) :
 Calls Tryz.prog 68 #[.pointer (some ⟨b,0,none⟩),.slice A d.size c,.func (.func 69) #[] #[]] w fun e w'=>e=.returned (.tuple #[])∧WW w0 b (l ++ rowB (qbg d).flatten) w'∧Below w0.heap.size w w'∧KeepT b w w' :=
 (rowR_any w0.heap.size b l A c d w h.h hr hm hs hl h.b.size).mono fun _ _ ⟨h1,h2,h3,h4⟩=>⟨h1,h.of h2 h3,h3,h4⟩
theorem wrowK {w0 w:World} {b:Nat} {l:List UInt8} (A:Option Addr) (c:Nat) (d:Array AK) (h:WW w0 b l w) (hr:RdK encK 6 w.heap.size w A d) (hm:∀ x ∈ d.toList,may6 x.kind∧may6 x.frm∧may6 x.bal∧may6 x.t∧may6 x.abal∧may6 x.ph) (hs:d.size≤1000) (hl:l.length≤800000000) :
 Calls Tryz.prog 65 #[.pointer (some ⟨b,0,none⟩),.slice A d.size c,.func (.func 66) #[] #[]] w fun e w'=>e=.returned (.tuple #[])∧WW w0 b (l ++ rowB (ackM d).flatten) w'∧Below w0.heap.size w w'∧KeepT b w w' :=
 (rowK_any w0.heap.size b l A c d w h.h hr hm hs hl h.b.size).mono fun _ _ ⟨h1,h2,h3,h4⟩=>⟨h1,h.of h2 h3,h3,h4⟩
structure EntB (e:EN):Prop where
 n:∀ x ∈ [e.id,e.ph,e.qu,e.t,e.bal,e.abal,e.seen,e.age],may6 x
 p:e.pay.size≤300
 k:∀ x ∈ e.z.toList,may6 x.kind∧may6 x.frm∧may6 x.bal∧may6 x.t∧may6 x.abal∧may6 x.ph
 z:e.z.size≤100
theorem qsr {e:EN} (h:EntB e):(qea e.pay.data.toList).length≤400:=by
 unfold qea
 have hp:e.pay.data.toList.length=e.pay.size:=by simp
 have:=qbp e.pay.data.toList.length (by rw [hp];have:=h.p;omega)
 rw [List.length_append]
 have:=h.p
 omega
theorem qvh {e:EN} (h:EntB e):(([e.id,e.ph,e.qu,e.t,e.bal,e.abal,e.seen,e.age].map Int.toNat).flatMap numB).length≤72:=by
 have:=qdq ([e.id,e.ph,e.qu,e.t,e.bal,e.abal,e.seen,e.age].map Int.toNat) (fun n hn=>by
  obtain ⟨y,hy,rfl⟩:=List.mem_map.1 hn
  have:=h.n y hy
  unfold may6 at this
  omega)
 have e8:([e.id,e.ph,e.qu,e.t,e.bal,e.abal,e.seen,e.age].map Int.toNat).length=8:=rfl
 omega
theorem entB_len {e:EN} (h:EntB e):(enC.b (entM e)).length≤10000:=by
 have h1:((ent8 e).flatMap numB).length≤72:=qvh h
 have h2:=qsr h
 have hl:∀ g ∈ ackM e.z,g.length=6:=fun g hg=>by
  obtain ⟨x,_,rfl⟩:=List.mem_map.1 hg
  rfl
 have h3:(rowB (ackM e.z).flatten).length≤9 + 9 * 600:=by
  unfold rowB
  have e1:=qcp 6 (ackM e.z) hl
  have e2:(ackM e.z).length=e.z.size:=by unfold ackM;simp
  have e3:=qdq (ackM e.z).flatten (fun n hn=>by
   obtain ⟨g,hg,hn⟩:=List.mem_flatten.1 hn
   obtain ⟨x,hx,rfl⟩:=List.mem_map.1 hg
   have:=h.k x hx
   unfold may6 at this
   unfold ackN at hn
   simp only [List.mem_cons,List.not_mem_nil,or_false] at hn
   omega)
  have e4:=qbp (ackM e.z).flatten.length (by have:=h.z;omega)
  have:=h.z
  rw [List.length_append]
  omega
 show ((ent8 e).flatMap numB ++ (qea e.pay.data.toList ++ rowB (ackM e.z).flatten)).length≤10000
 rw [List.length_append,List.length_append]
 omega
def qef (z:Array EN) (k:Nat):List UInt8:=(z.toList.take k).flatMap fun e=>enC.b (entM e)
theorem qlo {z:Array EN} (h:∀ x ∈ z.toList,EntB x):∀ k,k≤z.size→(qef z k).length≤k * 10000:=by
 intro k
 induction k with
 | zero=>intro _;simp [qef]
 | succ k ih =>
   intro hk
   unfold qef
   rw [qbi z _ (by omega),List.length_append]
   have h1:=ih (by omega)
   unfold qef at h1
   have h2:=entB_len (h z[k]! (by rw [getElem!_pos z k (by omega)];simp))
   omega
set_option maxHeartbeats 8000000 in
theorem qya {w0:World} {b:Nat} {l:List UInt8} (A:Option Addr) (c:Nat) (z:Array EN) (w:World) (h:WW w0 b l w) (hr:RdT0 w0 A z) (hm:∀ x ∈ z.toList,EntB x) (hs:z.size≤100) (hl:l.length≤10000000) :
 Calls Tryz.prog 23 #[.pointer (some ⟨b,0,none⟩),.slice A z.size c] w fun e w'=>e=.returned (.tuple #[])∧WW w0 b (l ++ (enC.list 1000 (by decide)).b (z.toList.map entM)) w'∧Below w0.heap.size w w'∧KeepT b w w':=by
 have HR:=hI hr
 have HM:=hI hm
 have HW:=hI h
 have hbl:=h.lt
 have HN:=hI (wnum (w:=w.alloc (.cells #[.int .i64 z.size] 3)) (g:=w.heap.size) (c:=1) [(z.size:Int)] (h.step (bel1 w _)) (heap_alloc_new w _) (by intro x hx;simp only [List.mem_cons,List.not_mem_nil,or_false] at hx;subst hx;unfold may6;omega) (by simp) (by omega) (by omega))
 simp only [List.length_cons,List.length_nil,Nat.zero_add,List.map_cons,List.map_nil,Int.toNat_natCast,List.flatMap_cons,List.flatMap_nil,List.append_nil] at HN
 obtain ⟨l1,hl1⟩:∃ x,l ++ numB z.size=x:=⟨_,rfl⟩
 have hl1s:l1.length≤10000010:=by
  have:=qbp z.size (by omega)
  rw [←hl1,List.length_append];omega
 rw [hl1] at HN
 have HL1:=hI hl1
 clear hr hm h hl1 hl
 go_enter Tryz.func23,Tryz.ntmps23
 go_wp2_with fail
 refine HN.out.mono ?_
 rintro _ w1 ⟨rfl,hW1,hb1,hk1⟩
 have HW1:=hI hW1
 have HB1:Hid (Below w0.heap.size w w1):=hI ((bel1 w _).mono HW.out.b.size |>.trans hb1)
 have HK1:=hI ((KeepT.of_below (b:=b) (bel1 w (.cells #[.int .i64 z.size] 3))).trans hk1)
 clear hW1 hb1 hk1 HN
 go_wp2
 go_loopw [13] (fun i wr=>∃ k:Nat,i=.int .i64 k∧k≤z.size∧Hid (WW w0 b (l1 ++ qef z k) wr)∧Hid (Below w0.heap.size w1 wr)∧Hid (KeepT b w1 wr)) (fun i _=>z.size - (intOf i).toNat)
 case atStart=>exact ⟨0,rfl,Nat.zero_le _,hI (by simpa [qef] using HW1.out),hI (Below.refl _ _),hI (KeepT.refl _ _)⟩
 case round =>
  obtain ⟨k,rfl,hk,HWr,HBr,HKr⟩:=hrel
  by_cases hlt:k < z.size
  ·have kz:(k:Int) < (z.size:Int):=by omega
   have HS:Hid (qef z (k + 1)=qef z k ++ enC.b (entM z[k]!)):=by show _=_;unfold qef;rw [qbi _ _ hlt]
   have hlr:(l1 ++ qef z k).length≤12000000:=by
    have:=qlo HM.out k hk
    have:k * 10000≤100 * 10000:=Nat.mul_le_mul_right _ (by omega)
    rw [List.length_append];omega
   have hRT:=HR.out.below HWr.out.b
   obtain ⟨b2,off,rfl,hb2,f⟩:=hRT.rd.at_ (i:=k) hlt
   have HE:=hI (HM.out z[k]! (by rw [getElem!_pos z k hlt];simp))
   have HEL:=hI (HR.out.el k hlt)
   obtain ⟨x,hx⟩:∃ x,z[k]! = x:=⟨_,rfl⟩
   rw [hx] at f HS HE HEL
   have e0:=f 0 (by omega)
   have e1:=f 1 (by omega)
   have e2:=f 2 (by omega)
   have e3:=f 3 (by omega)
   have e4:=f 4 (by omega)
   have e5:=f 5 (by omega)
   have e6:=f 6 (by omega)
   have e7:=f 7 (by omega)
   have e8:=f 8 (by omega)
   have e9:=f 9 (by omega)
   clear hx f hRT
   simp only [Nat.add_zero,encE,List.getElem!_cons_zero,List.getElem!_cons_succ] at e0 e1 e2 e3 e4 e5 e6 e7 e8 e9
   have hbr:=HWr.out.lt
   obtain ⟨l2,hl2⟩:∃ y,l1 ++ qef z k=y:=⟨_,rfl⟩
   rw [hl2] at HWr hlr
   have HL2:=hI hl2
   clear hl2
   obtain ⟨cs,hcs⟩:∃ cs:Array Value,cs=#[.int .i64 x.id,.int .i64 x.ph,.int .i64 x.qu,.int .i64 x.t,.int .i64 x.bal,.int .i64 x.abal,.int .i64 x.seen,.int .i64 x.age,.string x.pay,.slice x.A x.z.size x.c]:=⟨_,rfl⟩
   have HBX:Hid ((wr.alloc (.cells cs 132)).heap[wr.heap.size]?=some (.cells cs 132 (0,0))):=heap_alloc_new wr _
   have HN:=hI (wnum (w:=(wr.alloc (.cells cs 132)).alloc (.cells #[.int .i64 x.id,.int .i64 x.ph,.int .i64 x.qu,.int .i64 x.t,.int .i64 x.bal,.int .i64 x.abal,.int .i64 x.seen,.int .i64 x.age] 3)) (g:=wr.heap.size + 1) (c:=8) [x.id,x.ph,x.qu,x.t,x.bal,x.abal,x.seen,x.age] (HWr.out.step (qad (bel1 wr _) _)) (heap_alloc2_new wr _ _) HE.out.n (by simp) (by omega) (by omega))
   have HBXa:Hid (((wr.alloc (.cells cs 132)).alloc (.cells #[.int .i64 x.id,.int .i64 x.ph,.int .i64 x.qu,.int .i64 x.t,.int .i64 x.bal,.int .i64 x.abal,.int .i64 x.seen,.int .i64 x.age] 3)).heap[wr.heap.size]?=some (.cells cs 132 (0,0))):=qes HBX.out
   have HBb:Hid (Below wr.heap.size wr ((wr.alloc (.cells cs 132)).alloc (.cells #[.int .i64 x.id,.int .i64 x.ph,.int .i64 x.qu,.int .i64 x.t,.int .i64 x.bal,.int .i64 x.abal,.int .i64 x.seen,.int .i64 x.age] 3))):=qad (bel1 wr _) _
   rw [hcs] at HN HBXa HBb
   have HCS:=hI hcs
   clear HBX hcs
   go_wp2_with fail
   refine HN.out.mono ?_
   rintro _ w3 ⟨rfl,hW3,hb3,hk3⟩
   have HX3:=hI (qew hk3 (by omega) (by decide) HBXa.out)
   have HW3:=hI hW3
   have HB3:Hid (Below w0.heap.size wr w3):=hI ((HBb.out.mono HWr.out.b.size).trans hb3)
   have HK3:=hI ((KeepT.of_below (b:=b) HBb.out).trans hk3)
   have c8:=(cell_of_row w3 wr.heap.size 8 _ _ (0,0) HX3.out).trans rfl
   clear hW3 hb3 hk3 HN e0 e1 e2 e3 e4 e5 e6 e7 e8 e9
   have hl8:=qvh HE.out
   have HT:=hI (wtext x.pay HW3.out (by have:=HE.out.p;omega) (by rw [List.length_append];omega))
   clear hl8
   go_wp2_with fail
   refine HT.out.mono ?_
   rintro _ w4 ⟨rfl,hW4,hb4,hk4⟩
   have HX4:=hI (qew hk4 (by omega) (by decide) HX3.out)
   have HW4:=hI hW4
   have HB4:=hI (HB3.out.trans hb4)
   have HK4:=hI (HK3.out.trans hk4)
   have c9:=(cell_of_row w4 wr.heap.size 9 _ _ (0,0) HX4.out).trans rfl
   clear hW4 hb4 hk4 HT c8
   have hl9:=qvh HE.out
   have hlp:(qea x.pay.data.toList).length≤400:=qsr HE.out
   have HK:=hI (wrowK x.A x.c x.z HW4.out (HEL.out.below HW4.out.b).rd HE.out.k (by have:=HE.out.z;omega) (by rw [List.length_append,List.length_append];omega))
   clear hl9 hlp
   go_wp2_with fail
   refine HK.out.mono ?_
   rintro _ w5 ⟨rfl,hW5,hb5,hk5⟩
   have HW5:=hI hW5
   have HB5:=hI (HB4.out.trans hb5)
   have HK5:=hI (HK4.out.trans hk5)
   clear hW5 hb5 hk5 HK c9
   go_wp2
   go_roundw
   case rel =>
    refine ⟨k + 1,by go_num,by omega,hI ?_,hI (HBr.out.trans HB5.out),hI (HKr.out.trans HK5.out)⟩
    rw [HS.out,←List.append_assoc,HL2.out]
    have:=HW5.out
    rwa [List.append_assoc,List.append_assoc] at this
   case measure=>simp [intOf];omega
  ·have hlt':decide ((k:Int) < (z.size:Int))=false:=decide_eq_false (by omega)
   go_wp2
   go_end0
   have hkz:k=z.size:=by omega
   have e:qef z z.size=(z.toList.map entM).flatMap enC.b:=by
    unfold qef
    rw [List.take_of_length_le (by simp),List.flatMap_map]
   refine ⟨rfl,?_,HB1.out.trans HBr.out,HK1.out.trans HKr.out⟩
   have:=HWr.out
   rw [hkz,e,←HL1.out,List.append_assoc] at this
   have hz:(z.toList.map entM).length=z.size:=by simp
   show WW w0 b (l ++ (numB (z.toList.map entM).length ++ (z.toList.map entM).flatMap enC.b)) wr
   rw [hz]
   exact this
end Go.Proofs.YtnmojicfmcbgmaaGreatDoor
