/- Texts that the law leans on. -/
import Derived.Deep.CutRange
import Derived.Deep.CutBlock
import Derived.Test.YtjkecckndfcbjaaGreatDoorKRdr
import Derived.Test.YtjkecckndfcbjaaGreatDoorKMsgF
import Derived.Test.YtjkecckndfcbjaaGreatDoorKMsgV
import Derived.Test.YtjkecckndfcbjaaGreatDoorKAwkA
import Derived.Test.YtjkecckndfcbjaaGreatDoorKOwnK
namespace Go.Proofs.YtjkecckndfcbjaaGreatDoor
open Go.RowKit Go.Sort Nb
def recV (r:PR):Value:=.agg #[.int .i64 r.ep,.int .i64 r.sq,.bool r.sn,.int .i64 r.k,.string r.dt,.string r.st]
def qsb:ByteArray:=⟨#[101,118,101,110,116]⟩
def qfk:ByteArray:=⟨#[114,101,99,111,114,100]⟩
def ErP (op:ByteArray) (c:Nat) (e:Ending) (w':World):Prop:=∃ v,e=.returned v∧ErrV w' (if c=0 then [] else [op]) (c:Int) v
theorem qsc (op:ByteArray) (w':World):ErP op 0 (.returned .nilIface) w':=⟨_,rfl,Or.inl ⟨rfl,by simp,rfl⟩⟩
theorem qfl {op:ByteArray} {c:Nat} {d:Int} {v:Value} {w':World} (hd:d=c) (hc:c≠0) (h:Chain w' [op] d v):ErP op c (.returned v) w':=⟨v,rfl,Or.inr ⟨by omega,by rw [if_neg hc,←hd];exact h⟩⟩
theorem evGuard:Tryz.prog.eqGuardType Tryz.prog.depth 56 = false:=by kernel_rfl
theorem eqEv_run (k k':Int) (d d':ByteArray) (w:World):(binOp .eql 56 (.agg #[.int .i64 k,.string d]) (.agg #[.int .i64 k',.string d'])).run Tryz.prog w=.ok (.bool (decide (k=k') && decide (d=d'))) w:=by
 have hS:Tryz.prog.underlying 56 = some (.struct (Tryz.prog.fieldsOf 56)):=by kernel_rfl
 have hp:Tryz.prog.stoodInHeld 56 = false:=by kernel_rfl
 have u3:=Tryz.underlying3
 have u9:=Tryz.underlying9
 rw [run_eql_struct,show (10000:Nat)=9999 + 1 from rfl,run_equalIn_agg w 9999 56 _ _ hS hp]
 simp only [Program.fieldsOf,Tryz.underlying56]
 go_simp
 have hdd:(d.toList=d'.toList)↔d=d':=by
  rw [Lib.toList_data,Lib.toList_data]
  obtain ⟨⟨x⟩⟩:=d
  obtain ⟨⟨y⟩⟩:=d'
  simp
 by_cases h1:k=k' <;> by_cases h2:d=d' <;> simp [h1,h2,hdd]
theorem qel {w:World} {ops:List ByteArray} {v:Value} (h:ErrV w ops 0 v):v=.nilIface:=by
 rcases h with ⟨_,_,h⟩ | ⟨h,_⟩
 ·exact h
 ·exact absurd rfl h
theorem sz0 {d:ByteArray}:d.toList.isEmpty=decide (d.size=0):=by
 rw [Lib.toList_data]
 obtain ⟨⟨x⟩⟩:=d
 rw [Bool.eq_iff_iff]
 simp [ByteArray.size]
set_option maxRecDepth 100000 in
set_option maxHeartbeats 1000000 in
theorem evt_any (k:Int) (d:ByteArray) (w:World) (hg:Glob w) (hd:d.size≤1000000) :
 Calls Tryz.prog 135 #[.agg #[.int .i64 k,.string d]] w fun e w'=>ErP qsb (evC k d) e w'∧Below w.heap.size w w':=by
 have HN2:Hid (∀ W:World,Calls Tryz.prog 64 #[.string ⟨#[101,118,101,110,116]⟩,.int .i64 2] W fun e w'=>∃ v,e=.returned v∧Chain w' [qsb] 2 v∧Below W.heap.size W w'):=fun W=>qek qsb 2 W (by omega)
 have HN30:Hid (∀ W:World,Calls Tryz.prog 64 #[.string ⟨#[101,118,101,110,116]⟩,.int .i64 30] W fun e w'=>∃ v,e=.returned v∧Chain w' [qsb] 30 v∧Below W.heap.size W w'):=fun W=>qek qsb 30 W (by omega)
 have HE:Hid (evC k d=if k=1 then (if d.size≤300 then 0 else 2) else if k=2 then (if qdc d.data.toList=0 then 0 else 2) else if k=3 then (if d.size=0 then 0 else 2) else 30):=rfl
 generalize evC k d=c at HE ⊢
 by_cases h1:k=1
 ·subst h1
  rw [if_pos rfl] at HE
  clear hg
  by_cases h3:d.size≤300
  ·rw [if_pos h3] at HE
   have h3':decide ((d.size:Int)≤300)=true:=by simp;omega
   clear h3
   go_enter Tryz.func135,Tryz.ntmps135
   go_wp2
   go_ret
   rw [HE.out]
   exact ⟨qsc _ _,bel1 w _⟩
  ·rw [if_neg h3] at HE
   have h3':decide ((d.size:Int)≤300)=false:=by simp;omega
   clear h3
   go_enter Tryz.func135,Tryz.ntmps135
   go_wp2_with (go_at_call 64;refine (HN2.out _).mono ?_;rintro e w1 ⟨v,rfl,hch,hb1⟩;have HCH:=hI hch;have HB1:=hI (qac (bel1 w _) hb1);clear hch hb1)
   go_ret
   rw [HE.out]
   exact ⟨qfl rfl (by omega) HCH.out,HB1.out⟩
 ·rw [if_neg h1] at HE
  have h1':(k == 1)=false:=by simpa using h1
  clear h1
  by_cases h2:k=2
  ·subst h2
   rw [if_pos rfl] at HE
   have HTK:=hI (fun (W:World) (hb:Below w.heap.size w W)=>mTake_any d W (hg.below hb) hd)
   clear hg h1'
   go_enter Tryz.func135,Tryz.ntmps135
   go_wp2_with fail
   refine (HTK.out _ (bel1 w _)).mono ?_
   rintro e w1 ⟨⟨m,v1,ops1,rfl,-,hev,-,-,-⟩,hb1⟩
   have HB1:=hI (qac (bel1 w _) hb1)
   clear hb1
   obtain ⟨t,ht⟩:∃ t,qdc d.data.toList=t:=⟨_,rfl⟩
   rw [ht] at HE hev
   clear ht
   unfold msgV
   by_cases h0:t=0
   ·subst h0
    have hv1:=qel hev
    subst hv1
    rw [if_pos rfl] at HE
    clear hev
    go_wp2
    go_ret
    rw [HE.out]
    exact ⟨qsc _ _,qab HB1.out _⟩
   ·rw [if_neg h0] at HE
    obtain ⟨t1,u1,rfl⟩:∃ t u,v1=.iface t u:=by
     rcases hev with ⟨h,-⟩ | ⟨-,h⟩
     ·omega
     ·exact qar h
    clear hev h0
    go_wp2_with (go_at_call 64;refine (HN2.out _).mono ?_;rintro e w1 ⟨v,rfl,hch,hb1⟩;have HCH:=hI hch;have HB2:=hI (qac (qab HB1.out _) hb1);clear hch hb1)
    go_ret
    rw [HE.out]
    exact ⟨qfl rfl (by omega) HCH.out,HB2.out⟩
  ·rw [if_neg h2] at HE
   have h2':(k == 2)=false:=by simpa using h2
   clear h2 hg
   by_cases h3:k=3
   ·subst h3
    rw [if_pos rfl] at HE
    clear h1' h2'
    by_cases h4:d.size=0
    ·rw [if_pos h4] at HE
     have h4':d.toList.isEmpty=true:=by rw [sz0];simpa using h4
     clear h4
     go_enter Tryz.func135,Tryz.ntmps135
     go_wp2
     go_ret
     rw [HE.out]
     exact ⟨qsc _ _,bel1 w _⟩
    ·rw [if_neg h4] at HE
     have h4':d.toList.isEmpty=false:=by rw [sz0];simpa using h4
     clear h4
     go_enter Tryz.func135,Tryz.ntmps135
     go_wp2_with (go_at_call 64;refine (HN2.out _).mono ?_;rintro e w1 ⟨v,rfl,hch,hb1⟩;have HCH:=hI hch;have HB1:=hI (qac (bel1 w _) hb1);clear hch hb1)
     go_ret
     rw [HE.out]
     exact ⟨qfl rfl (by omega) HCH.out,HB1.out⟩
   ·rw [if_neg h3] at HE
    have h3':(k == 3)=false:=by simpa using h3
    clear h3
    go_enter Tryz.func135,Tryz.ntmps135
    go_wp2_with (go_at_call 64;refine (HN30.out _).mono ?_;rintro e w1 ⟨v,rfl,hch,hb1⟩;have HCH:=hI hch;have HB1:=hI (qac (bel1 w _) hb1);clear hch hb1)
    go_ret
    rw [HE.out]
    exact ⟨qfl rfl (by omega) HCH.out,HB1.out⟩
end Go.Proofs.YtjkecckndfcbjaaGreatDoor
namespace Go.Proofs.YtjkecckndfcbjaaGreatDoor
open Go.RowKit Go.Sort Nb
set_option maxRecDepth 100000 in
set_option maxHeartbeats 2000000 in
theorem qmj (r:PR) (w:World) (hg:Glob w) (hd:r.dt.size≤1000000) :
 Calls Tryz.prog 102 #[recV r] w fun e w'=>ErP qfk (recC r) e w'∧Below w.heap.size w w':=by
 have HEV:=hI (fun (W:World) (hb:Below w.heap.size w W)=>evt_any r.k r.dt W (hg.below hb) hd)
 have HN2:Hid (∀ W:World,Calls Tryz.prog 64 #[.string ⟨#[114,101,99,111,114,100]⟩,.int .i64 2] W fun e w'=>∃ v,e=.returned v∧Chain w' [qfk] 2 v∧Below W.heap.size W w'):=fun W=>qek qfk 2 W (by omega)
 have HC:Hid (recC r=if qoy r && qoz r then 0 else 2):=rfl
 have HH:Hid (qoy r=(decide (1≤r.ep) && decide (r.ep≤1000000) && decide (0≤r.sq) && decide (r.sq≤1000000) && (r.sn == (r.sq == 0)))):=rfl
 have HBO:Hid (qoz r=if r.sn then decide (r.k=0) && decide (r.dt.size=0) && decide (r.st.size≤18000) else decide (evC r.k r.dt=0) && decide (r.st.size=0)):=rfl
 have heg:=evGuard
 unfold recV
 generalize recC r=rc at HC ⊢
 generalize qoy r=hd at HC HH
 generalize qoz r=bd at HC HBO
 obtain ⟨ep,sq,sn,k,dt,st⟩:=r
 dsimp only at HEV HH HBO ⊢
 clear hg hd
 go_enter Tryz.func102,Tryz.ntmps102
 go_upto_region 1 with (fail)
 go_cut [3] from 5 to 69 (fun v wx=>v=.bool hd∧wx=w.alloc (.cells #[.int .i64 ep,.int .i64 sq,.bool sn,.int .i64 k,.string dt,.string st] 128))
 case first =>
  clear HC HBO HEV HN2
  by_cases h1:1≤ep
  ·by_cases h2:ep≤1000000
   ·by_cases h3:0≤sq
    ·by_cases h4:sq≤1000000
     ·by_cases h5:sq=0
      ·have hz:(sq == 0)=true:=by simpa using h5
       have HHx:Hid (hd=(sn == true)):=by show _=_;rw [HH.out,hz];simp [h1,h2,h3,h4]
       clear HH h5
       cases sn
       all_goals
        go_wp2
        go_meet
        exact ⟨by rw [HHx.out];rfl,rfl⟩
      ·have hz:(sq == 0)=false:=by simpa using h5
       have HHx:Hid (hd=(sn == false)):=by show _=_;rw [HH.out,hz];simp [h1,h2,h3,h4]
       clear HH h5
       cases sn
       all_goals
        go_wp2
        go_meet
        exact ⟨by rw [HHx.out];rfl,rfl⟩
     ·go_wp2
      go_meet
      exact ⟨by rw [HH.out];simp;intros;omega,rfl⟩
    ·go_wp2
     go_meet
     exact ⟨by rw [HH.out];simp;intros;omega,rfl⟩
   ·go_wp2
    go_meet
    exact ⟨by rw [HH.out];simp;intros;omega,rfl⟩
  ·go_wp2
   go_meet
   exact ⟨by rw [HH.out];simp;intros;omega,rfl⟩
 obtain ⟨hu,hwc⟩:=hcut
 subst hu hwc
 clear HH
 cases hd
 ·simp only [Bool.false_and,Bool.false_eq_true,if_false] at HC
  clear HBO
  cases sn
  ·go_wp2_with fail
   refine (HEV.out _ (bel1 w _)).mono ?_
   rintro e w1 ⟨⟨v,rfl,hv⟩,hb1⟩
   have HB1:=hI (qac (bel1 w _) hb1)
   clear hv hb1 HEV
   go_wp2_with (go_at_call 64;refine (HN2.out _).mono ?_;rintro e w2 ⟨v2,rfl,hch,hb2⟩;have HCH:=hI hch;have HB2:=hI (qac HB1.out hb2);clear hch hb2)
   go_ret
   rw [HC.out]
   exact ⟨qfl rfl (by omega) HCH.out,HB2.out⟩
  ·clear HEV
   go_wp2_with (go_at_call 64;refine (HN2.out _).mono ?_;rintro e w2 ⟨v2,rfl,hch,hb2⟩;have HCH:=hI hch;have HB2:=hI (qac (bel1 w _) hb2);clear hch hb2)
   go_ret
   rw [HC.out]
   exact ⟨qfl rfl (by omega) HCH.out,HB2.out⟩
 ·simp only [Bool.true_and] at HC
  cases sn
  ·simp only [Bool.false_eq_true,if_false] at HBO
   have hs0:=@sz0 st
   generalize decide (st.size=0)=se at hs0 HBO
   rcases evC_3 k dt with h | h | h
   all_goals
    rw [h] at HEV HBO
    clear h
   ·have HIS:=hI (fun (W:World) (d:Int) (hd:d≠0)=>qvl [] 0 d .nilIface W (Or.inl ⟨rfl,rfl,rfl⟩) hd)
    have HBX:Hid (bd=se):=by show _=_;rw [HBO.out];rfl
    clear HBO
    go_wp2_with fail
    refine (HEV.out _ (bel1 w _)).mono ?_
    rintro e w1 ⟨⟨v,rfl,hv⟩,hb1⟩
    have hv1:=qel hv
    subst hv1
    have HB1:=hI (qac (bel1 w _) hb1)
    have c5:w1.cell? ⟨w.heap.size,5,none⟩=some (.string st):=by rw [qad (qcb hb1)];rfl
    have hlt:w.heap.size < w1.heap.size:=qaa (qcb hb1)
    have HI30:=hI (HIS.out w1 30 (by omega))
    have HI2:=hI (HIS.out w1 2 (by omega))
    clear hv hb1 HEV HIS
    cases se
    ·have HCX:Hid (rc=2):=by show _=_;rw [HC.out,HBX.out];rfl
     clear HC HBX
     go_wp2_with (first | (go_at_call 92;first | ((with_reducible refine HI30.out.mono ?_);rintro e w' ⟨rfl,rfl⟩) | ((with_reducible refine HI2.out.mono ?_);rintro e w' ⟨rfl,rfl⟩)) | (go_at_call 64;refine (HN2.out _).mono ?_;rintro e w2 ⟨v2,rfl,hch,hb2⟩;have HCH:=hI hch;have HB2:=hI (qac HB1.out hb2);clear hch hb2))
     go_ret
     rw [HCX.out]
     exact ⟨qfl rfl (by omega) HCH.out,HB2.out⟩
    ·have HCX:Hid (rc=0):=by show _=_;rw [HC.out,HBX.out];rfl
     clear HC HBX
     go_wp2_with (first | (go_at_call 92;first | ((with_reducible refine HI30.out.mono ?_);rintro e w' ⟨rfl,rfl⟩) | ((with_reducible refine HI2.out.mono ?_);rintro e w' ⟨rfl,rfl⟩)))
     go_ret
     rw [HCX.out]
     exact ⟨qsc _ _,HB1.out⟩
   all_goals
    have HCX:Hid (rc=2):=by show _=_;rw [HC.out,HBO.out];rfl
    clear HC HBO
    go_wp2_with fail
    refine (HEV.out _ (bel1 w _)).mono ?_
    rintro e w1 ⟨⟨v,rfl,hv⟩,hb1⟩
    have HI30:=hI (qvl _ _ 30 v w1 hv (by decide))
    have HI2:=hI (qvl _ _ 2 v w1 hv (by decide))
    have HB1:=hI (qac (bel1 w _) hb1)
    have hlt:w.heap.size < w1.heap.size:=qaa (qcb hb1)
    clear hv hb1 HEV
    go_wp2_with (first | (go_at_call 92;first | ((with_reducible refine HI30.out.mono ?_);rintro e w' ⟨rfl,rfl⟩) | ((with_reducible refine HI2.out.mono ?_);rintro e w' ⟨rfl,rfl⟩)) | (go_at_call 64;refine (HN2.out _).mono ?_;rintro e w2 ⟨v2,rfl,hch,hb2⟩;have HCH:=hI hch;have HB2:=hI (qac HB1.out hb2);clear hch hb2))
    go_ret
    rw [HCX.out]
    exact ⟨qfl rfl (by omega) HCH.out,HB2.out⟩
  ·simp only [if_true] at HBO
   have hev:∀ W,(binOp .eql 56 (.agg #[.int .i64 k,.string dt]) (.agg #[.int .i64 0,.string ⟨#[]⟩])).run Tryz.prog W=.ok (.bool (decide (k=0) && decide (dt.size=0))) W:=fun W=>by
    have h1:=eqEv_run k 0 dt ⟨#[]⟩ W
    have h2:decide (dt=(⟨#[]⟩:ByteArray))=decide (dt.size=0):=by
     rw [Bool.eq_iff_iff]
     simp only [decide_eq_true_eq]
     exact ⟨fun h=>by rw [h];rfl,ba_nil⟩
    rw [h2] at h1
    exact h1
   generalize (decide (k=0) && decide (dt.size=0))=ze at hev HBO
   clear HEV
   cases ze
   ·have HCX:Hid (rc=2):=by show _=_;rw [HC.out,HBO.out];rfl
    clear HC HBO
    go_wp2_with (go_at_call 64;refine (HN2.out _).mono ?_;rintro e w2 ⟨v2,rfl,hch,hb2⟩;have HCH:=hI hch;have HB2:=hI (qac (bel1 w _) hb2);clear hch hb2)
    go_ret
    rw [HCX.out]
    exact ⟨qfl rfl (by omega) HCH.out,HB2.out⟩
   ·by_cases h8:st.size≤18000
    ·have h8':decide ((st.size:Int)≤18000)=true:=by simp;omega
     have HCX:Hid (rc=0):=by show _=_;rw [HC.out,HBO.out];simp [h8]
     clear HC HBO h8
     go_wp2
     go_ret
     rw [HCX.out]
     exact ⟨qsc _ _,bel1 w _⟩
    ·have h8':decide ((st.size:Int)≤18000)=false:=by simp;omega
     have HCX:Hid (rc=2):=by show _=_;rw [HC.out,HBO.out];simp [h8]
     clear HC HBO h8
     go_wp2_with (go_at_call 64;refine (HN2.out _).mono ?_;rintro e w2 ⟨v2,rfl,hch,hb2⟩;have HCH:=hI hch;have HB2:=hI (qac (bel1 w _) hb2);clear hch hb2)
     go_ret
     rw [HCX.out]
     exact ⟨qfl rfl (by omega) HCH.out,HB2.out⟩
end Go.Proofs.YtjkecckndfcbjaaGreatDoor
namespace Go.Proofs.YtjkecckndfcbjaaGreatDoor
open Go.RowKit Go.Sort Nb
def RPutBad (e:Ending) (w':World):Prop:=∃ v,e=.returned (.tuple #[.string ⟨#[]⟩,v])∧ErrV w' [qfk] 2 v
set_option maxRecDepth 100000 in
set_option maxHeartbeats 1000000 in
theorem qsd (r:PR) (w:World) (hg:Glob w) (hd:r.dt.size≤1000000) (h0:recC r≠0) :
 Calls Tryz.prog 87 #[recV r] w fun e w'=>RPutBad e w'∧Below w.heap.size w w':=by
 have HC:=hI (fun W (h:Below w.heap.size w W)=>qmj r W (hg.below h) hd)
 have h2:=(qma r).resolve_left h0
 rw [h2] at HC
 unfold recV at HC ⊢
 clear hg hd h0 h2
 go_enter Tryz.func87,Tryz.ntmps87
 go_wp2_with fail
 refine (HC.out _ (bel1 w _)).mono ?_
 rintro e w1 ⟨⟨v,rfl,hv⟩,hb1⟩
 have hch:=qdn hv (by decide)
 obtain ⟨t1,u1,rfl⟩:∃ t u,v=.iface t u:=qar hch
 have HV:=hI hch
 have HB1:=hI (qac (bel1 w _) hb1)
 clear hv hch hb1 HC
 go_wp2
 go_ret2
 exact ⟨⟨_,rfl,Or.inr ⟨by decide,HV.out⟩⟩,HB1.out⟩
theorem layN1 {a:Int} (h:0≤a∧a≤1000000):LayN #[a]:=qew (by intro x hx;simp at hx;omega)
theorem layN2 {a b:Int} (h:0≤a∧a≤1000000) (h':0≤b∧b≤1000000):LayN #[a,b]:=qew (by intro x hx;simp at hx;omega)
set_option maxRecDepth 100000 in
set_option maxHeartbeats 4000000 in
theorem qtt (r:PR) (w:World) (hg:Glob w) (hd:r.dt.size≤1000000) (h0:recC r=0) :
 Calls Tryz.prog 87 #[recV r] w fun e w'=>e=.returned (.tuple #[.string ⟨(recB r).toArray⟩,.nilIface])∧Below w.heap.size w w':=by
 have HC:=hI (fun W (h:Below w.heap.size w W)=>qmj r W (hg.below h) hd)
 rw [h0] at HC
 obtain ⟨h1,h2,h3,h4,hT,hF⟩:=qgi h0
 have HMB:Hid (recB r=numB r.ep.toNat ++ numB r.sq.toNat ++ qez r.sn ++ (if r.sn then qdg r.st.data.toList else numB r.k.toNat ++ qdg r.dt.data.toList)):=rfl
 generalize recB r=bs at HMB ⊢
 unfold recV at HC ⊢
 obtain ⟨ep,sq,sn,k,dt,st⟩:=r
 dsimp only at HC HMB h1 h2 h3 h4 hT hF hd ⊢
 have l2:((nats #[ep,sq]).flatMap numB).length≤18:=by have:=qeb _ (layN2 ⟨by omega,h2⟩ ⟨h3,h4⟩:LayN #[ep,sq]).nats;rw [qee] at this;exact this
 have HN2:Hid (∀ (B b:Nat) (l:List UInt8) (W:World) (g:Nat),Wrt B b l W→W.heap[g]?=some (.cells #[.int .i64 ep,.int .i64 sq] 3 (0,0))→l.length≤900000000→B≤W.heap.size→g≠b→Calls Tryz.prog 122 #[.pointer (some ⟨b,0,none⟩),.slice (some ⟨g,0,none⟩) 2 2] W (WP B b (l ++ (nats #[ep,sq]).flatMap numB) W)):=fun B b l W g h hg hl hB hne=>qxb B b l g 2 #[ep,sq] W h (by rw [hg];simp [encI]) (layN2 ⟨by omega,h2⟩ ⟨h3,h4⟩) (by show 2≤10000;omega) hl hB hne
 have e2:(nats #[ep,sq]).flatMap numB=numB ep.toNat ++ numB sq.toNat:=by simp [nats]
 have HE2:Hid ((nats #[ep,sq]).flatMap numB=numB ep.toNat ++ numB sq.toNat):=e2
 clear e2
 generalize (nats #[ep,sq]).flatMap numB=x2 at HN2 HE2 l2
 clear hg h0 h1 h2 h3 h4
 have hnb:=hd
 clear hd
 go_enter Tryz.func87,Tryz.ntmps87
 go_wp2_with fail
 refine (HC.out _ (bel1 w _)).mono ?_
 rintro e w1 ⟨⟨v,rfl,hv⟩,hb1⟩
 obtain rfl:v=.nilIface:=qel hv
 have hlt:w.heap.size < w1.heap.size:=qaa (qcb hb1)
 have HQ:Hid (∀ W,Below w1.heap.size w1 W→W.cell? ⟨w.heap.size,2,none⟩=some (.bool sn)∧W.cell? ⟨w.heap.size,3,none⟩=some (.int .i64 k)∧W.cell? ⟨w.heap.size,4,none⟩=some (.string dt)∧W.cell? ⟨w.heap.size,5,none⟩=some (.string st)):=fun W hb=>⟨(hb.cell (p:=⟨w.heap.size,2,none⟩) hlt).trans (by rw [qad (qcb hb1)];rfl),(hb.cell (p:=⟨w.heap.size,3,none⟩) hlt).trans (by rw [qad (qcb hb1)];rfl),(hb.cell (p:=⟨w.heap.size,4,none⟩) hlt).trans (by rw [qad (qcb hb1)];rfl),(hb.cell (p:=⟨w.heap.size,5,none⟩) hlt).trans (by rw [qad (qcb hb1)];rfl)⟩
 have q0:w1.cell? ⟨w.heap.size,0,none⟩=some (.int .i64 ep):=by rw [qad (qcb hb1)];rfl
 have q1:w1.cell? ⟨w.heap.size,1,none⟩=some (.int .i64 sq):=by rw [qad (qcb hb1)];rfl
 have HB1:=hI (qac (bel1 w _) hb1)
 clear hv hb1 HC
 go_wp2_with fail
 refine (HN2.out w1.heap.size w1.heap.size [] _ (w1.heap.size + 1) ((Wrt.new w1).below (bel1 _ _)) (qim _ _ _) (by simp) (by simp;omega) (by omega)).mono ?_
 rintro e w2 ⟨rfl,h2,hb2,hk2⟩
 rw [List.nil_append] at h2
 have hB2:Below w1.heap.size w1 w2:=(qab (bel1 w1 _) _).trans hb2
 have hz2:w1.heap.size + 2≤w2.heap.size:=by have:=hb2.size;simp at this;omega
 obtain ⟨p2,-,-,-⟩:=HQ.out w2 hB2
 have HT:=hI (WFlag_any w1.heap.size w1.heap.size _ sn w2 h2 (by omega) hB2.size)
 have hB2z:=hB2.size
 clear q0 q1 hb2 hk2 h2 HN2
 go_wp2_with fail
 refine HT.out.mono ?_
 rintro e w3 ⟨rfl,h3,hb3,hk3⟩
 have hB3:Below w1.heap.size w1 w3:=hB2.trans hb3
 have hz3:w2.heap.size≤w3.heap.size:=hb3.size
 obtain ⟨p2',p3,p4,p5⟩:=HQ.out w3 hB3
 have hB3z:=hB3.size
 have hfl:(qez sn).length=1:=by cases sn <;> rfl
 have HB3:=hI hB3
 clear hb3 hk3 hB2 HT p2
 cases sn
 ·obtain ⟨k1,k3,hdl,-⟩:=hF rfl
  have l1:((nats #[k]).flatMap numB).length≤9:=by have:=qeb _ (layN1 ⟨by omega,by omega⟩:LayN #[k]).nats;rw [qee] at this;exact this
  have HN1:Hid (∀ (B b:Nat) (l:List UInt8) (W:World) (g:Nat),Wrt B b l W→W.heap[g]?=some (.cells #[.int .i64 k] 3 (0,0))→l.length≤900000000→B≤W.heap.size→g≠b→Calls Tryz.prog 122 #[.pointer (some ⟨b,0,none⟩),.slice (some ⟨g,0,none⟩) 1 1] W (WP B b (l ++ (nats #[k]).flatMap numB) W)):=fun B b l W g h hg hl hB hne=>qxb B b l g 1 #[k] W h (by rw [hg];simp [encI]) (layN1 ⟨by omega,by omega⟩) (by show 1≤10000;omega) hl hB hne
  have HE1:Hid ((nats #[k]).flatMap numB=numB k.toNat):=by show _=_;simp [nats]
  generalize (nats #[k]).flatMap numB=x1 at HN1 HE1 l1
  have HNW:=hI (fun (W:World) (hb:Below w3.heap.size w3 W)=>HN1.out w1.heap.size w1.heap.size _ W w3.heap.size (h3.below hb))
  clear hT hF HN1 h3 hB3
  go_wp2_with fail
  refine (HNW.out _ (bel1 w3 _) (qcq _ _) (by rw [List.length_append,hfl];omega) (by simp;omega) (by omega)).mono ?_
  rintro e w4 ⟨rfl,h4,hb4,hk4⟩
  have hB4:Below w1.heap.size w1 w4:=(qab HB3.out _).trans hb4
  obtain ⟨-,-,p4',-⟩:=HQ.out w4 hB4
  have HTX:=hI (qsk w1.heap.size w1.heap.size _ dt w4 h4 (by rw [List.length_append,List.length_append,hfl];omega) hB4.size)
  have HB4:=hI hB4
  have hB4z:=hB4.size
  clear hb4 hk4 hB4 h4 HNW p2' p3 p4 p5
  go_wp2_with fail
  refine HTX.out.mono ?_
  rintro e w5 ⟨rfl,h5,hb5,hk5⟩
  have HB5:=hI (HB4.out.trans hb5)
  have HD:=hI (qsl w1.heap.size w1.heap.size _ w5 h5 (by intro h;have:=congrArg List.length h;simp only [List.length_append,List.length_nil] at this;omega))
  clear h5 hb5 hk5 HTX p4'
  go_wp2_with (go_at_call 125;refine HD.out.mono ?_;rintro e w8 ⟨rfl,hb8⟩;have HB8:=hI (HB5.out.trans hb8);clear hb8)
  go_ret2
  refine ⟨?_,qac HB1.out HB8.out⟩
  rw [HMB.out,HE2.out,HE1.out]
  simp
 ·obtain ⟨-,-,hst⟩:=hT rfl
  have HTX:=hI (qsk w1.heap.size w1.heap.size _ st w3 h3 (by rw [List.length_append,hfl];omega) hB3.size)
  clear hT hF h3 hB3
  go_wp2_with fail
  refine HTX.out.mono ?_
  rintro e w5 ⟨rfl,h5,hb5,hk5⟩
  have HB5:=hI (HB3.out.trans hb5)
  have HD:=hI (qsl w1.heap.size w1.heap.size _ w5 h5 (by intro h;have:=congrArg List.length h;simp only [List.length_append,List.length_nil] at this;omega))
  clear h5 hb5 hk5 HTX p2' p3 p4 p5
  go_wp2_with (go_at_call 125;refine HD.out.mono ?_;rintro e w8 ⟨rfl,hb8⟩;have HB8:=hI (HB5.out.trans hb8);clear hb8)
  go_ret2
  refine ⟨?_,qac HB1.out HB8.out⟩
  rw [HMB.out,HE2.out]
  simp
end Go.Proofs.YtjkecckndfcbjaaGreatDoor
