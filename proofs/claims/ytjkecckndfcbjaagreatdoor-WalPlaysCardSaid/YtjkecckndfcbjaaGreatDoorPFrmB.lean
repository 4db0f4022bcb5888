/- Texts that the law leans on. -/
import Derived.Test.YtjkecckndfcbjaaGreatDoorPCrcC
import Derived.Test.YtjkecckndfcbjaaGreatDoorPCrcE
import Derived.Test.YtjkecckndfcbjaaGreatDoorPOwnK
namespace Go.Proofs.YtjkecckndfcbjaaGreatDoor
open Go.RowKit Go.Lib Go.Sort Crc Nb
set_option maxRecDepth 100000
theorem qkt (b:ByteArray) (w:World) (h:b.size≤20000) :
 Calls Tryz.prog 71 #[.string b] w fun e w'=>e=.returned (.tuple #[.string (frW b),.int .i64 0])∧Below w.heap.size w w':=by
 have HP:=hI (qil b.size w (by omega))
 have h1:(b.size:Int)≤20000:=by omega
 have h2:=qax b.size (by omega)
 have HZ:=hI (qkl b)
 obtain ⟨n,hn⟩:∃ n:ByteArray,⟨(numB b.size).toArray⟩=n:=⟨_,rfl⟩
 have hns:n.size≤9:=by rw [←hn,qaz];exact h2
 rw [hn] at HP HZ
 have HS:=hI (fun W=>rSeal_any (n ++ b) W (by rw [ByteArray.size_append];omega))
 clear h h2 hn
 go_enter Tryz.func71,Tryz.ntmps71
 go_wp2_with (first | (go_at_call 111;refine HP.out.mono ?_;rintro _ w1 ⟨rfl,hb1⟩;have HB1:=hI hb1;clear hb1) | (go_at_call 112;refine (HS.out _).mono ?_;rintro _ w2 ⟨rfl,hb2⟩;have HB2:=hI hb2;clear hb2))
 refine bodyPost_ret (v:=.tuple #[.string (qnk (n ++ b)),.int .i64 0]) (by simp [results,Tryz.results71,go_sem]) rfl ⟨by rw [HZ.out],qad HB1.out HB2.out⟩
theorem rfGet_any (s:ByteArray) (p:Nat) (w:World) (hp:p≤s.size) (hs:s.size≤1000000) :
 Calls Tryz.prog 85 #[.string s,.int .i64 p] w fun e w'=>e=.returned (.tuple #[.string (gfB (gfR s p)),.int .i64 (gfT p (gfR s p):Int),.int .i64 (gfE (gfR s p):Int)])∧Below w.heap.size w w':=by
 have HG:=hI (qmz s p w hp hs)
 have elen:s.data.toList.length=s.size:=by simp
 cases hg:getL (s.data.toList.drop p) with
 | no c =>
   rw [hg] at HG
   rw [gfR_no hg]
   have hc:=qdg hg
   have hc':((c:Int) != 0)=true:=by simp;omega
   simp only [gN,gT,gE,gfB,gfT,gfE] at HG ⊢
   clear hp hs hg hc elen
   go_enter Tryz.func85,Tryz.ntmps85
   go_wp2_with (go_at_call 120;refine HG.out.mono ?_;rintro _ _ ⟨rfl,rfl⟩)
   refine bodyPost_ret (v:=.tuple #[.string ⟨#[]⟩,.int .i64 0,.int .i64 (c:Int)]) (by simp [results,Tryz.results85,go_sem]) rfl ⟨rfl,Below.refl _ _⟩
 | ok n k =>
   rw [hg] at HG
   obtain ⟨-,-,g3,g4⟩:=qcn hg
   rw [List.length_drop] at g3
   simp only [gN,gT,gE] at HG
   obtain ⟨fr,hfr⟩:∃ x,p + k=x:=⟨_,rfl⟩
   rw [hfr] at HG
   have hfs:fr≤s.size:=by omega
   by_cases hb:20000 < n
   ·have hb':(20000:Int) < (n:Int):=by omega
    rw [gfR_big hg hb]
    simp only [gfB,gfT,gfE]
    clear hp hs hg elen g3 g4 hb hfr
    go_enter Tryz.func85,Tryz.ntmps85
    go_wp2_with (go_at_call 120;refine HG.out.mono ?_;rintro _ _ ⟨rfl,rfl⟩)
    refine bodyPost_ret (v:=.tuple #[.string ⟨#[]⟩,.int .i64 0,.int .i64 3]) (by simp [results,Tryz.results85,go_sem]) rfl ⟨rfl,Below.refl _ _⟩
   ·have hb':decide ((20000:Int) < (n:Int))=false:=decide_eq_false (by omega)
    obtain ⟨tt,htt⟩:∃ x,p + k + n + 4=x:=⟨_,rfl⟩
    have hfr2:(fr:Int) + (n:Int) + 4=(tt:Int):=by omega
    by_cases hl:s.size < p + k + n + 4
    ·have hl':s.size < tt:=by omega
     rw [qpq hg hb hl hp]
     simp only [gfB,gfT,gfE]
     clear hp hg elen g4 hfr g3 htt hl
     go_enter Tryz.func85,Tryz.ntmps85
     go_wp2_with (go_at_call 120;refine HG.out.mono ?_;rintro _ _ ⟨rfl,rfl⟩)
     refine bodyPost_ret (v:=.tuple #[.string ⟨#[]⟩,.int .i64 0,.int .i64 4]) (by simp [results,Tryz.results85,go_sem]) rfl ⟨rfl,Below.refl _ _⟩
    ·have hl':decide (s.size < tt)=false:=decide_eq_false (by omega)
     rw [qtv hg hb (by omega)]
     obtain ⟨x,hx⟩:∃ x:ByteArray,s.extract p tt=x:=⟨_,rfl⟩
     have hxs:x.size=k + n + 4:=by rw [←hx,ByteArray.size_extract];omega
     have HU:=hI (fun W=>qrz x W (by omega))
     have h1:(tt:Int)≤(s.size:Int):=by omega
     have h2:(p:Int)≤(tt:Int):=by omega
     have HX:=hI hx
     rw [htt,hx]
     by_cases h0:sumS x=0#32
     ·have hun:unsS x=(x.extract 0 (x.size - 4),0):=by unfold unsS;rw [if_neg (by omega),if_pos h0]
      rw [hun] at HU
      rw [if_pos h0]
      obtain ⟨u,hu⟩:∃ u,p + k + n=u:=⟨_,rfl⟩
      have h4:(tt:Int) - 4=(u:Int):=by omega
      have h5:(fr:Int)≤(u:Int):=by omega
      have h6:(u:Int)≤(s.size:Int):=by omega
      simp only [gfB,gfT,gfE]
      have HT:Hid (p + (k + n + 4)=tt):=by show _=_;omega
      rw [HT.out,qpp,hfr,show fr + n=u by omega]
      clear hp hg elen g4 hfr g3 htt hx hxs hun hu h0 hl
      go_enter Tryz.func85,Tryz.ntmps85
      go_wp2_with (first | (go_at_call 120;refine HG.out.mono ?_;rintro _ _ ⟨rfl,rfl⟩) | (go_at_call 121;rw [HX.out];refine (HU.out _).mono ?_;rintro _ w1 ⟨rfl,hb1⟩;have HB1:=hI hb1;clear hb1))
      refine bodyPost_ret (v:=.tuple #[.string (s.extract fr u),.int .i64 (tt:Int),.int .i64 0]) (by simp [results,Tryz.results85,go_sem]) rfl ⟨rfl,HB1.out⟩
     ·have hun:unsS x=(⟨#[]⟩,7):=by unfold unsS;rw [if_neg (by omega),if_neg h0]
      rw [hun] at HU
      rw [if_neg h0]
      simp only [gfB,gfT,gfE]
      clear hp hg elen g4 hfr g3 htt hx hxs hun h0 hl
      go_enter Tryz.func85,Tryz.ntmps85
      go_wp2_with (first | (go_at_call 120;refine HG.out.mono ?_;rintro _ _ ⟨rfl,rfl⟩) | (go_at_call 121;rw [HX.out];refine (HU.out _).mono ?_;rintro _ w1 ⟨rfl,hb1⟩;have HB1:=hI hb1;clear hb1))
      refine bodyPost_ret (v:=.tuple #[.string ⟨#[]⟩,.int .i64 0,.int .i64 7]) (by simp [results,Tryz.results85,go_sem]) rfl ⟨rfl,HB1.out⟩
def eS (b:List UInt8):List Value:=[.string ⟨b.toArray⟩]
theorem eS_len (b:List UInt8):(eS b).length=1:=rfl
theorem qqc:(Tryz.prog.info? 9).map (fun i=>(i.zero,i.size,i.bytes))=some (some (.string ⟨#[]⟩),1,16):=by kernel_rfl
theorem newF (W:World) (l:List Value) (t:TypeId):∀ j u,l[j]?=some u→(W.alloc (.cells l.toArray t)).cell? ((⟨W.heap.size,0,none⟩:Addr).add j)=some u:=by
 intro j u hj
 rw [Addr.add_lit,Nat.zero_add,qjx]
 rw [←hj]
 simp
theorem qqd {w wr w1:World} {B:Nat} {o:Obj} {e:TypeId} {s n:Nat} {v:Value} {xs:List Value} (hb:Below B w wr) (hB:B≤wr.heap.size) (hown:wr.ownsRow B e s v n xs) (hg:(wr.alloc o).grownBy w1 v.ownBlock):Below B w w1 :=
 (hb.alloc hB o).grown hg (by simp;omega) (fun k hk=>(hown.lt k hk).1)
theorem qat {w W:World} {B s n:Nat} {e:TypeId} {v:Value} {xs:List Value} (h:w.ownsRow B e s v n xs) (hb:Below w.heap.size w W):W.ownsRow B e s v n xs:=by
 obtain ⟨h0,h1 | ⟨g,cap,cur,hv,hB,hh,hr⟩⟩:=h
 ·exact ⟨h0,Or.inl h1⟩
 ·exact ⟨h0,Or.inr ⟨g,cap,cur,hv,hB,(hb.block g (qaa hh)).trans hh,hr⟩⟩
theorem frL_no {s:List UInt8} {e:Nat} (h:frL s=.no e):e≠0:=by
 unfold frL at h
 cases hg:getL s with
 | no c =>
   rw [hg] at h
   injection h with h
   have:=qdg hg
   omega
 | ok n k =>
   rw [hg] at h
   simp only at h
   (repeat' split at h) <;> first | (cases h;done) | (injection h with h;omega)
def AllF (s:ByteArray) (w:World) (e:Ending) (w':World):Prop :=
 ∃ v,e=.returned (.tuple #[v,.int .i64 ((allL s.data.toList).2:Int)])∧w'.ownsRow w.heap.size 9 1 v (allL s.data.toList).1.toArray.size (flatK eS 1 (allL s.data.toList).1.toArray).toList∧Below w.heap.size w w'
set_option maxHeartbeats 2000000 in
theorem rfAll_any (s:ByteArray) (w:World) (hs:s.size≤1000000) :
 Calls Tryz.prog 55 #[.string s] w (AllF s w):=by
 obtain ⟨i0,hi0,hz0,hz1,hz2⟩:=info_parts qqc
 have HG:=hI (fun (W:World) (p:Nat) (hp:p≤s.size)=>rfGet_any s p W hp hs)
 have elen:s.data.toList.length=s.size:=by simp
 have HL:=hI elen
 clear elen
 go_enter Tryz.func55,Tryz.ntmps55
 go_wp2
 go_loopw [4,5] (fun m i wr=>∃ (p:Nat) (out:Array (List UInt8)),i=.int .i64 (p:Int)∧p≤s.size∧out.size≤p∧Hid (out.toList ++ (allL (s.data.toList.drop p)).1=(allL s.data.toList).1)∧Hid (p + (allL (s.data.toList.drop p)).2=(allL s.data.toList).2)∧wr.ownsRow w.heap.size 9 1 m out.size (flatK eS 1 out).toList∧Hid (Below w.heap.size w wr)) (fun _ i _=>s.size - (intOf i).toNat)
 case atStart=>exact ⟨0,#[],rfl,Nat.zero_le _,Nat.le_refl _,by show _=_;simp,by show _=_;simp,qec _ _ _ _ _,hI (Below.refl _ _)⟩
 case round =>
  obtain ⟨p,out,rfl,hp,hos,HO,HP,hown,HB⟩:=hrel
  obtain ⟨Am,cm,rfl,_,_⟩:=qbo hown
  have HGp:=hI (HG.out wr p hp)
  cases hf:frL (s.data.toList.drop p) with
  | no c =>
    have hc0:=frL_no hf
    have hc':((c:Int) != 0)=true:=by simp;omega
    have e1:gfR s p=.no c:=hf
    rw [e1] at HGp
    rw [qnb hf] at HO HP
    simp only [gfB,gfT,gfE,List.append_nil,Nat.add_zero] at HGp HO HP
    clear hf hc0 e1
    go_wp2_with fail
    refine HGp.out.mono ?_
    rintro _ w2 ⟨rfl,hb2⟩
    have hown2:=qat hown hb2
    have HB2:=hI (qad HB.out hb2)
    clear hb2
    go_wp2
    refine bodyPost_ret (v:=.tuple #[.slice Am out.size cm,.int .i64 (p:Int)]) (by simp [results,Tryz.results55,go_sem]) rfl ?_
    refine ⟨_,by rw [←HP.out],?_,HB2.out⟩
    rw [←HO.out]
    exact hown2
  | ok b k =>
    obtain ⟨q1,q2,q3,q4⟩:=qpi hf
    have q5:=qff b
    rw [List.length_drop,HL.out] at q3
    have e1:gfR s p=.ok b k:=hf
    rw [e1] at HGp
    rw [qnc hf,List.drop_drop] at HO HP
    simp only [gfB,gfT,gfE] at HGp HO HP
    clear hf e1 q1
    obtain ⟨t,ht⟩:∃ t,p + k=t:=⟨_,rfl⟩
    rw [ht] at HGp HO HP
    have HN:Hid ((out.push b).toList ++ (allL (s.data.toList.drop t)).1=(allL s.data.toList).1):=by show _=_;rw [←HO.out];simp
    have HM:Hid (t + (allL (s.data.toList.drop t)).2=(allL s.data.toList).2):=by show _=_;rw [←HP.out,←ht];omega
    have ht1:t≤s.size:=by omega
    have ht2:p < t:=by omega
    clear ht q2 q3 q4 q5
    go_wp2_with fail
    refine HGp.out.mono ?_
    rintro _ w2 ⟨rfl,hb2⟩
    have hown2:=qat hown hb2
    have HB2:=hI (qad HB.out hb2)
    clear hb2
    go_wp2_with (at_builtin;refine wpList_append_own _ rfl _ _ 118 rfl w.heap.size 9 i0 (.string ⟨#[]⟩) 1 16 Tryz.underlying118 hi0 hz0 hz1 hz2 rfl (by decide) _ _ _ rfl (hown2.alloc _) ⟨w2.heap.size,0,none⟩ 1 1 [.string ⟨b.toArray⟩] rfl rfl (newF w2 _ _) (by simp [Value.oneCell']) (by unfold maxLen;omega) (by omega) (by have:=HB2.out.size;simp;omega) ?_;intro v' w4 hown' hgrow _)
    exact ⟨⟨t,out.push b,by go_num,ht1,by simp;omega,HN,HM,(by rw [Array.size_push,qgp eS_len];exact hown'),hI (qqd HB2.out HB2.out.size hown2 hgrow)⟩,by simp [intOf];omega⟩
end Go.Proofs.YtjkecckndfcbjaaGreatDoor
