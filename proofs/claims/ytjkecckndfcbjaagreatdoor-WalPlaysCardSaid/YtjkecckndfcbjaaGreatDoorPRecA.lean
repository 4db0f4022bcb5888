/- Texts that the law leans on. -/
import Derived.Deep.CutRange
import Derived.Deep.CutBlock
import Derived.Test.YtjkecckndfcbjaaGreatDoorPRdr
import Derived.Test.YtjkecckndfcbjaaGreatDoorPMsgF
import Derived.Test.YtjkecckndfcbjaaGreatDoorPMsgV
import Derived.Test.YtjkecckndfcbjaaGreatDoorPOwnK
namespace Go.Proofs.YtjkecckndfcbjaaGreatDoor
open Go.RowKit Go.Sort Nb
def recV (r:PR):Value:=.agg #[.int .i64 r.ep,.int .i64 r.sq,.bool r.sn,.int .i64 r.k,.string r.dt,.string r.st]
def qqz:ByteArray:=⟨#[101,118,101,110,116]⟩
def qfa:ByteArray:=⟨#[114,101,99,111,114,100]⟩
def ErP (op:ByteArray) (c:Nat) (e:Ending) (w':World):Prop:=∃ v,e=.returned v∧ErrV w' (if c=0 then [] else [op]) (c:Int) v
theorem qra (op:ByteArray) (w':World):ErP op 0 (.returned .nilIface) w':=⟨_,rfl,Or.inl ⟨rfl,by simp,rfl⟩⟩
theorem qfb {op:ByteArray} {c:Nat} {d:Int} {v:Value} {w':World} (hd:d=c) (hc:c≠0) (h:Chain w' [op] d v):ErP op c (.returned v) w':=⟨v,rfl,Or.inr ⟨by omega,by rw [if_neg hc,←hd];exact h⟩⟩
theorem evGuard:Tryz.prog.eqGuardType Tryz.prog.depth 56 = false:=by kernel_rfl
theorem eqEv_run (k k':Int) (d d':ByteArray) (w:World):(binOp .eql 56 (.agg #[.int .i64 k,.string d]) (.agg #[.int .i64 k',.string d'])).run Tryz.prog w=.ok (.bool (decide (k=k') && decide (d=d'))) w:=by
 have hS:Tryz.prog.underlying 56 = some (.struct (Tryz.prog.fieldsOf 56)):=by kernel_rfl
 have hp:Tryz.prog.stoodInHeld 56 = false:=by kernel_rfl
 have u3:=Tryz.underlying3
 have u9:=Tryz.underlying9
 rw [run_eql_struct,show (10000:Nat)=9999 + 1 from rfl,run_equalIn_agg w 9999 56 _ _ hS hp]
 simp only [Program.fieldsOf,Tryz.underlying56]
 go_simp
 have hdd:(d.toList=d'.toList)↔d=d':=by
  rw [Lib.toList_data,Lib.toList_data]
  obtain ⟨⟨x⟩⟩:=d
  obtain ⟨⟨y⟩⟩:=d'
  simp
 by_cases h1:k=k' <;> by_cases h2:d=d' <;> simp [h1,h2,hdd]
theorem qef {w:World} {ops:List ByteArray} {v:Value} (h:ErrV w ops 0 v):v=.nilIface:=by
 rcases h with ⟨_,_,h⟩ | ⟨h,_⟩
 ·exact h
 ·exact absurd rfl h
theorem sz0 {d:ByteArray}:d.toList.isEmpty=decide (d.size=0):=by
 rw [Lib.toList_data]
 obtain ⟨⟨x⟩⟩:=d
 rw [Bool.eq_iff_iff]
 simp [ByteArray.size]
set_option maxRecDepth 100000 in
set_option maxHeartbeats 1000000 in
theorem evt_any (k:Int) (d:ByteArray) (w:World) (hg:Glob w) (hd:d.size≤1000000) :
 Calls Tryz.prog 135 #[.agg #[.int .i64 k,.string d]] w fun e w'=>ErP qqz (evC k d) e w'∧Below w.heap.size w w':=by
 have HN2:Hid (∀ W:World,Calls Tryz.prog 64 #[.string ⟨#[101,118,101,110,116]⟩,.int .i64 2] W fun e w'=>∃ v,e=.returned v∧Chain w' [qqz] 2 v∧Below W.heap.size W w'):=fun W=>qee qqz 2 W (by omega)
 have HN30:Hid (∀ W:World,Calls Tryz.prog 64 #[.string ⟨#[101,118,101,110,116]⟩,.int .i64 30] W fun e w'=>∃ v,e=.returned v∧Chain w' [qqz] 30 v∧Below W.heap.size W w'):=fun W=>qee qqz 30 W (by omega)
 have HE:Hid (evC k d=if k=1 then (if d.size≤300 then 0 else 2) else if k=2 then (if qda d.data.toList=0 then 0 else 2) else if k=3 then (if d.size=0 then 0 else 2) else 30):=rfl
 generalize evC k d=c at HE ⊢
 by_cases h1:k=1
 ·subst h1
  rw [if_pos rfl] at HE
  clear hg
  by_cases h3:d.size≤300
  ·rw [if_pos h3] at HE
   have h3':decide ((d.size:Int)≤300)=true:=by simp;omega
   clear h3
   go_enter Tryz.func135,Tryz.ntmps135
   go_wp2
   go_ret
   rw [HE.out]
   exact ⟨qra _ _,bel1 w _⟩
  ·rw [if_neg h3] at HE
   have h3':decide ((d.size:Int)≤300)=false:=by simp;omega
   clear h3
   go_enter Tryz.func135,Tryz.ntmps135
   go_wp2_with (go_at_call 64;refine (HN2.out _).mono ?_;rintro e w1 ⟨v,rfl,hch,hb1⟩;have HCH:=hI hch;have HB1:=hI (qad (bel1 w _) hb1);clear hch hb1)
   go_ret
   rw [HE.out]
   exact ⟨qfb rfl (by omega) HCH.out,HB1.out⟩
 ·rw [if_neg h1] at HE
  have h1':(k == 1)=false:=by simpa using h1
  clear h1
  by_cases h2:k=2
  ·subst h2
   rw [if_pos rfl] at HE
   have HTK:=hI (fun (W:World) (hb:Below w.heap.size w W)=>mTake_any d W (hg.below hb) hd)
   clear hg h1'
   go_enter Tryz.func135,Tryz.ntmps135
   go_wp2_with fail
   refine (HTK.out _ (bel1 w _)).mono ?_
   rintro e w1 ⟨⟨m,v1,ops1,rfl,-,hev,-,-,-⟩,hb1⟩
   have HB1:=hI (qad (bel1 w _) hb1)
   clear hb1
   obtain ⟨t,ht⟩:∃ t,qda d.data.toList=t:=⟨_,rfl⟩
   rw [ht] at HE hev
   clear ht
   unfold msgV
   by_cases h0:t=0
   ·subst h0
    have hv1:=qef hev
    subst hv1
    rw [if_pos rfl] at HE
    clear hev
    go_wp2
    go_ret
    rw [HE.out]
    exact ⟨qra _ _,qab HB1.out _⟩
   ·rw [if_neg h0] at HE
    obtain ⟨t1,u1,rfl⟩:∃ t u,v1=.iface t u:=by
     rcases hev with ⟨h,-⟩ | ⟨-,h⟩
     ·omega
     ·exact qar h
    clear hev h0
    go_wp2_with (go_at_call 64;refine (HN2.out _).mono ?_;rintro e w1 ⟨v,rfl,hch,hb1⟩;have HCH:=hI hch;have HB2:=hI (qad (qab HB1.out _) hb1);clear hch hb1)
    go_ret
    rw [HE.out]
    exact ⟨qfb rfl (by omega) HCH.out,HB2.out⟩
  ·rw [if_neg h2] at HE
   have h2':(k == 2)=false:=by simpa using h2
   clear h2 hg
   by_cases h3:k=3
   ·subst h3
    rw [if_pos rfl] at HE
    clear h1' h2'
    by_cases h4:d.size=0
    ·rw [if_pos h4] at HE
     have h4':d.toList.isEmpty=true:=by rw [sz0];simpa using h4
     clear h4
     go_enter Tryz.func135,Tryz.ntmps135
     go_wp2
     go_ret
     rw [HE.out]
     exact ⟨qra _ _,bel1 w _⟩
    ·rw [if_neg h4] at HE
     have h4':d.toList.isEmpty=false:=by rw [sz0];simpa using h4
     clear h4
     go_enter Tryz.func135,Tryz.ntmps135
     go_wp2_with (go_at_call 64;refine (HN2.out _).mono ?_;rintro e w1 ⟨v,rfl,hch,hb1⟩;have HCH:=hI hch;have HB1:=hI (qad (bel1 w _) hb1);clear hch hb1)
     go_ret
     rw [HE.out]
     exact ⟨qfb rfl (by omega) HCH.out,HB1.out⟩
   ·rw [if_neg h3] at HE
    have h3':(k == 3)=false:=by simpa using h3
    clear h3
    go_enter Tryz.func135,Tryz.ntmps135
    go_wp2_with (go_at_call 64;refine (HN30.out _).mono ?_;rintro e w1 ⟨v,rfl,hch,hb1⟩;have HCH:=hI hch;have HB1:=hI (qad (bel1 w _) hb1);clear hch hb1)
    go_ret
    rw [HE.out]
    exact ⟨qfb rfl (by omega) HCH.out,HB1.out⟩
end Go.Proofs.YtjkecckndfcbjaaGreatDoor
namespace Go.Proofs.YtjkecckndfcbjaaGreatDoor
open Go.RowKit Go.Sort Nb
set_option maxRecDepth 100000 in
set_option maxHeartbeats 2000000 in
theorem qlf (r:PR) (w:World) (hg:Glob w) (hd:r.dt.size≤1000000) :
 Calls Tryz.prog 102 #[recV r] w fun e w'=>ErP qfa (recC r) e w'∧Below w.heap.size w w':=by
 have HEV:=hI (fun (W:World) (hb:Below w.heap.size w W)=>evt_any r.k r.dt W (hg.below hb) hd)
 have HN2:Hid (∀ W:World,Calls Tryz.prog 64 #[.string ⟨#[114,101,99,111,114,100]⟩,.int .i64 2] W fun e w'=>∃ v,e=.returned v∧Chain w' [qfa] 2 v∧Below W.heap.size W w'):=fun W=>qee qfa 2 W (by omega)
 have HC:Hid (recC r=if qsn r && qso r then 0 else 2):=rfl
 have HH:Hid (qsn r=(decide (1≤r.ep) && decide (r.ep≤1000000) && decide (0≤r.sq) && decide (r.sq≤1000000) && (r.sn == (r.sq == 0)))):=rfl
 have HBO:Hid (qso r=if r.sn then decide (r.k=0) && decide (r.dt.size=0) && decide (r.st.size≤18000) else decide (evC r.k r.dt=0) && decide (r.st.size=0)):=rfl
 have heg:=evGuard
 unfold recV
 generalize recC r=rc at HC ⊢
 generalize qsn r=hd at HC HH
 generalize qso r=bd at HC HBO
 obtain ⟨ep,sq,sn,k,dt,st⟩:=r
 dsimp only at HEV HH HBO ⊢
 clear hg hd
 go_enter Tryz.func102,Tryz.ntmps102
 go_upto_region 1 with (fail)
 go_cut [3] from 5 to 69 (fun v wx=>v=.bool hd∧wx=w.alloc (.cells #[.int .i64 ep,.int .i64 sq,.bool sn,.int .i64 k,.string dt,.string st] 128))
 case first =>
  clear HC HBO HEV HN2
  by_cases h1:1≤ep
  ·by_cases h2:ep≤1000000
   ·by_cases h3:0≤sq
    ·by_cases h4:sq≤1000000
     ·by_cases h5:sq=0
      ·have hz:(sq == 0)=true:=by simpa using h5
       have HHx:Hid (hd=(sn == true)):=by show _=_;rw [HH.out,hz];simp [h1,h2,h3,h4]
       clear HH h5
       cases sn
       all_goals
        go_wp2
        go_meet
        exact ⟨by rw [HHx.out];rfl,rfl⟩
      ·have hz:(sq == 0)=false:=by simpa using h5
       have HHx:Hid (hd=(sn == false)):=by show _=_;rw [HH.out,hz];simp [h1,h2,h3,h4]
       clear HH h5
       cases sn
       all_goals
        go_wp2
        go_meet
        exact ⟨by rw [HHx.out];rfl,rfl⟩
     ·go_wp2
      go_meet
      exact ⟨by rw [HH.out];simp;intros;omega,rfl⟩
    ·go_wp2
     go_meet
     exact ⟨by rw [HH.out];simp;intros;omega,rfl⟩
   ·go_wp2
    go_meet
    exact ⟨by rw [HH.out];simp;intros;omega,rfl⟩
  ·go_wp2
   go_meet
   exact ⟨by rw [HH.out];simp;intros;omega,rfl⟩
 obtain ⟨hu,hwc⟩:=hcut
 subst hu hwc
 clear HH
 cases hd
 ·simp only [Bool.false_and,Bool.false_eq_true,if_false] at HC
  clear HBO
  cases sn
  ·go_wp2_with fail
   refine (HEV.out _ (bel1 w _)).mono ?_
   rintro e w1 ⟨⟨v,rfl,hv⟩,hb1⟩
   have HB1:=hI (qad (bel1 w _) hb1)
   clear hv hb1 HEV
   go_wp2_with (go_at_call 64;refine (HN2.out _).mono ?_;rintro e w2 ⟨v2,rfl,hch,hb2⟩;have HCH:=hI hch;have HB2:=hI (qad HB1.out hb2);clear hch hb2)
   go_ret
   rw [HC.out]
   exact ⟨qfb rfl (by omega) HCH.out,HB2.out⟩
  ·clear HEV
   go_wp2_with (go_at_call 64;refine (HN2.out _).mono ?_;rintro e w2 ⟨v2,rfl,hch,hb2⟩;have HCH:=hI hch;have HB2:=hI (qad (bel1 w _) hb2);clear hch hb2)
   go_ret
   rw [HC.out]
   exact ⟨qfb rfl (by omega) HCH.out,HB2.out⟩
 ·simp only [Bool.true_and] at HC
  cases sn
  ·simp only [Bool.false_eq_true,if_false] at HBO
   have hs0:=@sz0 st
   generalize decide (st.size=0)=se at hs0 HBO
   rcases evC_3 k dt with h | h | h
   all_goals
    rw [h] at HEV HBO
    clear h
   ·have HIS:=hI (fun (W:World) (d:Int) (hd:d≠0)=>qug [] 0 d .nilIface W (Or.inl ⟨rfl,rfl,rfl⟩) hd)
    have HBX:Hid (bd=se):=by show _=_;rw [HBO.out];rfl
    clear HBO
    go_wp2_with fail
    refine (HEV.out _ (bel1 w _)).mono ?_
    rintro e w1 ⟨⟨v,rfl,hv⟩,hb1⟩
    have hv1:=qef hv
    subst hv1
    have HB1:=hI (qad (bel1 w _) hb1)
    have c5:w1.cell? ⟨w.heap.size,5,none⟩=some (.string st):=by rw [qac (qbz hb1)];rfl
    have hlt:w.heap.size < w1.heap.size:=qaa (qbz hb1)
    have HI30:=hI (HIS.out w1 30 (by omega))
    have HI2:=hI (HIS.out w1 2 (by omega))
    clear hv hb1 HEV HIS
    cases se
    ·have HCX:Hid (rc=2):=by show _=_;rw [HC.out,HBX.out];rfl
     clear HC HBX
     go_wp2_with (first | (go_at_call 92;first | ((with_reducible refine HI30.out.mono ?_);rintro e w' ⟨rfl,rfl⟩) | ((with_reducible refine HI2.out.mono ?_);rintro e w' ⟨rfl,rfl⟩)) | (go_at_call 64;refine (HN2.out _).mono ?_;rintro e w2 ⟨v2,rfl,hch,hb2⟩;have HCH:=hI hch;have HB2:=hI (qad HB1.out hb2);clear hch hb2))
     go_ret
     rw [HCX.out]
     exact ⟨qfb rfl (by omega) HCH.out,HB2.out⟩
    ·have HCX:Hid (rc=0):=by show _=_;rw [HC.out,HBX.out];rfl
     clear HC HBX
     go_wp2_with (first | (go_at_call 92;first | ((with_reducible refine HI30.out.mono ?_);rintro e w' ⟨rfl,rfl⟩) | ((with_reducible refine HI2.out.mono ?_);rintro e w' ⟨rfl,rfl⟩)))
     go_ret
     rw [HCX.out]
     exact ⟨qra _ _,HB1.out⟩
   all_goals
    have HCX:Hid (rc=2):=by show _=_;rw [HC.out,HBO.out];rfl
    clear HC HBO
    go_wp2_with fail
    refine (HEV.out _ (bel1 w _)).mono ?_
    rintro e w1 ⟨⟨v,rfl,hv⟩,hb1⟩
    have HI30:=hI (qug _ _ 30 v w1 hv (by decide))
    have HI2:=hI (qug _ _ 2 v w1 hv (by decide))
    have HB1:=hI (qad (bel1 w _) hb1)
    have hlt:w.heap.size < w1.heap.size:=qaa (qbz hb1)
    clear hv hb1 HEV
    go_wp2_with (first | (go_at_call 92;first | ((with_reducible refine HI30.out.mono ?_);rintro e w' ⟨rfl,rfl⟩) | ((with_reducible refine HI2.out.mono ?_);rintro e w' ⟨rfl,rfl⟩)) | (go_at_call 64;refine (HN2.out _).mono ?_;rintro e w2 ⟨v2,rfl,hch,hb2⟩;have HCH:=hI hch;have HB2:=hI (qad HB1.out hb2);clear hch hb2))
    go_ret
    rw [HCX.out]
    exact ⟨qfb rfl (by omega) HCH.out,HB2.out⟩
  ·simp only [if_true] at HBO
   have hev:∀ W,(binOp .eql 56 (.agg #[.int .i64 k,.string dt]) (.agg #[.int .i64 0,.string ⟨#[]⟩])).run Tryz.prog W=.ok (.bool (decide (k=0) && decide (dt.size=0))) W:=fun W=>by
    have h1:=eqEv_run k 0 dt ⟨#[]⟩ W
    have h2:decide (dt=(⟨#[]⟩:ByteArray))=decide (dt.size=0):=by
     rw [Bool.eq_iff_iff]
     simp only [decide_eq_true_eq]
     exact ⟨fun h=>by rw [h];rfl,ba_nil⟩
    rw [h2] at h1
    exact h1
   generalize (decide (k=0) && decide (dt.size=0))=ze at hev HBO
   clear HEV
   cases ze
   ·have HCX:Hid (rc=2):=by show _=_;rw [HC.out,HBO.out];rfl
    clear HC HBO
    go_wp2_with (go_at_call 64;refine (HN2.out _).mono ?_;rintro e w2 ⟨v2,rfl,hch,hb2⟩;have HCH:=hI hch;have HB2:=hI (qad (bel1 w _) hb2);clear hch hb2)
    go_ret
    rw [HCX.out]
    exact ⟨qfb rfl (by omega) HCH.out,HB2.out⟩
   ·by_cases h8:st.size≤18000
    ·have h8':decide ((st.size:Int)≤18000)=true:=by simp;omega
     have HCX:Hid (rc=0):=by show _=_;rw [HC.out,HBO.out];simp [h8]
     clear HC HBO h8
     go_wp2
     go_ret
     rw [HCX.out]
     exact ⟨qra _ _,bel1 w _⟩
    ·have h8':decide ((st.size:Int)≤18000)=false:=by simp;omega
     have HCX:Hid (rc=2):=by show _=_;rw [HC.out,HBO.out];simp [h8]
     clear HC HBO h8
     go_wp2_with (go_at_call 64;refine (HN2.out _).mono ?_;rintro e w2 ⟨v2,rfl,hch,hb2⟩;have HCH:=hI hch;have HB2:=hI (qad (bel1 w _) hb2);clear hch hb2)
     go_ret
     rw [HCX.out]
     exact ⟨qfb rfl (by omega) HCH.out,HB2.out⟩
end Go.Proofs.YtjkecckndfcbjaaGreatDoor
namespace Go.Proofs.YtjkecckndfcbjaaGreatDoor
open Go.RowKit Go.Sort Nb
def RPutBad (e:Ending) (w':World):Prop:=∃ v,e=.returned (.tuple #[.string ⟨#[]⟩,v])∧ErrV w' [qfa] 2 v
set_option maxRecDepth 100000 in
set_option maxHeartbeats 1000000 in
theorem qrb (r:PR) (w:World) (hg:Glob w) (hd:r.dt.size≤1000000) (h0:recC r≠0) :
 Calls Tryz.prog 87 #[recV r] w fun e w'=>RPutBad e w'∧Below w.heap.size w w':=by
 have HC:=hI (fun W (h:Below w.heap.size w W)=>qlf r W (hg.below h) hd)
 have h2:=(qla r).resolve_left h0
 rw [h2] at HC
 unfold recV at HC ⊢
 clear hg hd h0 h2
 go_enter Tryz.func87,Tryz.ntmps87
 go_wp2_with fail
 refine (HC.out _ (bel1 w _)).mono ?_
 rintro e w1 ⟨⟨v,rfl,hv⟩,hb1⟩
 have hch:=qdq hv (by decide)
 obtain ⟨t1,u1,rfl⟩:∃ t u,v=.iface t u:=qar hch
 have HV:=hI hch
 have HB1:=hI (qad (bel1 w _) hb1)
 clear hv hch hb1 HC
 go_wp2
 go_ret2
 exact ⟨⟨_,rfl,Or.inr ⟨by decide,HV.out⟩⟩,HB1.out⟩
theorem layN1 {a:Int} (h:0≤a∧a≤1000000):LayN #[a]:=qeo (by intro x hx;simp at hx;omega)
theorem layN2 {a b:Int} (h:0≤a∧a≤1000000) (h':0≤b∧b≤1000000):LayN #[a,b]:=qeo (by intro x hx;simp at hx;omega)
set_option maxRecDepth 100000 in
set_option maxHeartbeats 4000000 in
theorem qsu (r:PR) (w:World) (hg:Glob w) (hd:r.dt.size≤1000000) (h0:recC r=0) :
 Calls Tryz.prog 87 #[recV r] w fun e w'=>e=.returned (.tuple #[.string ⟨(recB r).toArray⟩,.nilIface])∧Below w.heap.size w w':=by
 have HC:=hI (fun W (h:Below w.heap.size w W)=>qlf r W (hg.below h) hd)
 rw [h0] at HC
 obtain ⟨h1,h2,h3,h4,hT,hF⟩:=qfv h0
 have HMB:Hid (recB r=numB r.ep.toNat ++ numB r.sq.toNat ++ qer r.sn ++ (if r.sn then qdf r.st.data.toList else numB r.k.toNat ++ qdf r.dt.data.toList)):=rfl
 generalize recB r=bs at HMB ⊢
 unfold recV at HC ⊢
 obtain ⟨ep,sq,sn,k,dt,st⟩:=r
 dsimp only at HC HMB h1 h2 h3 h4 hT hF hd ⊢
 have l2:((nats #[ep,sq]).flatMap numB).length≤18:=by have:=qdx _ (layN2 ⟨by omega,h2⟩ ⟨h3,h4⟩:LayN #[ep,sq]).nats;rw [qdy] at this;exact this
 have HN2:Hid (∀ (B b:Nat) (l:List UInt8) (W:World) (g:Nat),Wrt B b l W→W.heap[g]?=some (.cells #[.int .i64 ep,.int .i64 sq] 3 (0,0))→l.length≤900000000→B≤W.heap.size→g≠b→Calls Tryz.prog 122 #[.pointer (some ⟨b,0,none⟩),.slice (some ⟨g,0,none⟩) 2 2] W (WP B b (l ++ (nats #[ep,sq]).flatMap numB) W)):=fun B b l W g h hg hl hB hne=>qvv B b l g 2 #[ep,sq] W h (by rw [hg];simp [encI]) (layN2 ⟨by omega,h2⟩ ⟨h3,h4⟩) (by show 2≤10000;omega) hl hB hne
 have e2:(nats #[ep,sq]).flatMap numB=numB ep.toNat ++ numB sq.toNat:=by simp [nats]
 have HE2:Hid ((nats #[ep,sq]).flatMap numB=numB ep.toNat ++ numB sq.toNat):=e2
 clear e2
 generalize (nats #[ep,sq]).flatMap numB=x2 at HN2 HE2 l2
 clear hg h0 h1 h2 h3 h4
 have hnb:=hd
 clear hd
 go_enter Tryz.func87,Tryz.ntmps87
 go_wp2_with fail
 refine (HC.out _ (bel1 w _)).mono ?_
 rintro e w1 ⟨⟨v,rfl,hv⟩,hb1⟩
 obtain rfl:v=.nilIface:=qef hv
 have hlt:w.heap.size < w1.heap.size:=qaa (qbz hb1)
 have HQ:Hid (∀ W,Below w1.heap.size w1 W→W.cell? ⟨w.heap.size,2,none⟩=some (.bool sn)∧W.cell? ⟨w.heap.size,3,none⟩=some (.int .i64 k)∧W.cell? ⟨w.heap.size,4,none⟩=some (.string dt)∧W.cell? ⟨w.heap.size,5,none⟩=some (.string st)):=fun W hb=>⟨(hb.cell (p:=⟨w.heap.size,2,none⟩) hlt).trans (by rw [qac (qbz hb1)];rfl),(hb.cell (p:=⟨w.heap.size,3,none⟩) hlt).trans (by rw [qac (qbz hb1)];rfl),(hb.cell (p:=⟨w.heap.size,4,none⟩) hlt).trans (by rw [qac (qbz hb1)];rfl),(hb.cell (p:=⟨w.heap.size,5,none⟩) hlt).trans (by rw [qac (qbz hb1)];rfl)⟩
 have q0:w1.cell? ⟨w.heap.size,0,none⟩=some (.int .i64 ep):=by rw [qac (qbz hb1)];rfl
 have q1:w1.cell? ⟨w.heap.size,1,none⟩=some (.int .i64 sq):=by rw [qac (qbz hb1)];rfl
 have HB1:=hI (qad (bel1 w _) hb1)
 clear hv hb1 HC
 go_wp2_with fail
 refine (HN2.out w1.heap.size w1.heap.size [] _ (w1.heap.size + 1) ((Wrt.new w1).below (bel1 _ _)) (qhs _ _ _) (by simp) (by simp;omega) (by omega)).mono ?_
 rintro e w2 ⟨rfl,h2,hb2,hk2⟩
 rw [List.nil_append] at h2
 have hB2:Below w1.heap.size w1 w2:=(qab (bel1 w1 _) _).trans hb2
 have hz2:w1.heap.size + 2≤w2.heap.size:=by have:=hb2.size;simp at this;omega
 obtain ⟨p2,-,-,-⟩:=HQ.out w2 hB2
 have HT:=hI (WFlag_any w1.heap.size w1.heap.size _ sn w2 h2 (by omega) hB2.size)
 have hB2z:=hB2.size
 clear q0 q1 hb2 hk2 h2 HN2
 go_wp2_with fail
 refine HT.out.mono ?_
 rintro e w3 ⟨rfl,h3,hb3,hk3⟩
 have hB3:Below w1.heap.size w1 w3:=hB2.trans hb3
 have hz3:w2.heap.size≤w3.heap.size:=hb3.size
 obtain ⟨p2',p3,p4,p5⟩:=HQ.out w3 hB3
 have hB3z:=hB3.size
 have hfl:(qer sn).length=1:=by cases sn <;> rfl
 have HB3:=hI hB3
 clear hb3 hk3 hB2 HT p2
 cases sn
 ·obtain ⟨k1,k3,hdl,-⟩:=hF rfl
  have l1:((nats #[k]).flatMap numB).length≤9:=by have:=qdx _ (layN1 ⟨by omega,by omega⟩:LayN #[k]).nats;rw [qdy] at this;exact this
  have HN1:Hid (∀ (B b:Nat) (l:List UInt8) (W:World) (g:Nat),Wrt B b l W→W.heap[g]?=some (.cells #[.int .i64 k] 3 (0,0))→l.length≤900000000→B≤W.heap.size→g≠b→Calls Tryz.prog 122 #[.pointer (some ⟨b,0,none⟩),.slice (some ⟨g,0,none⟩) 1 1] W (WP B b (l ++ (nats #[k]).flatMap numB) W)):=fun B b l W g h hg hl hB hne=>qvv B b l g 1 #[k] W h (by rw [hg];simp [encI]) (layN1 ⟨by omega,by omega⟩) (by show 1≤10000;omega) hl hB hne
  have HE1:Hid ((nats #[k]).flatMap numB=numB k.toNat):=by show _=_;simp [nats]
  generalize (nats #[k]).flatMap numB=x1 at HN1 HE1 l1
  have HNW:=hI (fun (W:World) (hb:Below w3.heap.size w3 W)=>HN1.out w1.heap.size w1.heap.size _ W w3.heap.size (h3.below hb))
  clear hT hF HN1 h3 hB3
  go_wp2_with fail
  refine (HNW.out _ (bel1 w3 _) (qcp _ _) (by rw [List.length_append,hfl];omega) (by simp;omega) (by omega)).mono ?_
  rintro e w4 ⟨rfl,h4,hb4,hk4⟩
  have hB4:Below w1.heap.size w1 w4:=(qab HB3.out _).trans hb4
  obtain ⟨-,-,p4',-⟩:=HQ.out w4 hB4
  have HTX:=hI (qrg w1.heap.size w1.heap.size _ dt w4 h4 (by rw [List.length_append,List.length_append,hfl];omega) hB4.size)
  have HB4:=hI hB4
  have hB4z:=hB4.size
  clear hb4 hk4 hB4 h4 HNW p2' p3 p4 p5
  go_wp2_with fail
  refine HTX.out.mono ?_
  rintro e w5 ⟨rfl,h5,hb5,hk5⟩
  have HB5:=hI (HB4.out.trans hb5)
  have HD:=hI (qrh w1.heap.size w1.heap.size _ w5 h5 (by intro h;have:=congrArg List.length h;simp only [List.length_append,List.length_nil] at this;omega))
  clear h5 hb5 hk5 HTX p4'
  go_wp2_with (go_at_call 125;refine HD.out.mono ?_;rintro e w8 ⟨rfl,hb8⟩;have HB8:=hI (HB5.out.trans hb8);clear hb8)
  go_ret2
  refine ⟨?_,qad HB1.out HB8.out⟩
  rw [HMB.out,HE2.out,HE1.out]
  simp
 ·obtain ⟨-,-,hst⟩:=hT rfl
  have HTX:=hI (qrg w1.heap.size w1.heap.size _ st w3 h3 (by rw [List.length_append,hfl];omega) hB3.size)
  clear hT hF h3 hB3
  go_wp2_with fail
  refine HTX.out.mono ?_
  rintro e w5 ⟨rfl,h5,hb5,hk5⟩
  have HB5:=hI (HB3.out.trans hb5)
  have HD:=hI (qrh w1.heap.size w1.heap.size _ w5 h5 (by intro h;have:=congrArg List.length h;simp only [List.length_append,List.length_nil] at this;omega))
  clear h5 hb5 hk5 HTX p2' p3 p4 p5
  go_wp2_with (go_at_call 125;refine HD.out.mono ?_;rintro e w8 ⟨rfl,hb8⟩;have HB8:=hI (HB5.out.trans hb8);clear hb8)
  go_ret2
  refine ⟨?_,qad HB1.out HB8.out⟩
  rw [HMB.out,HE2.out]
  simp
end Go.Proofs.YtjkecckndfcbjaaGreatDoor
namespace Go.Proofs.YtjkecckndfcbjaaGreatDoor
open Go.RowKit Go.Sort Nb
theorem qjk {w:World} {g:Nat} {y0 y1 y2 y3 y4 y5:Value} {T:TypeId} (h:w.heap[g]?=some (.cells #[y0,y1,y2,y3,y4,y5] T (0,0))) (z0 z1 z2 z3 z4 z5:Value) :
 ((((((w.setCell ⟨g,0,none⟩ z0).setCell ⟨g,1,none⟩ z1).setCell ⟨g,2,none⟩ z2).setCell ⟨g,3,none⟩ z3).setCell ⟨g,4,none⟩ z4).setCell ⟨g,5,none⟩ z5).heap[g]?=some (.cells #[z0,z1,z2,z3,z4,z5] T (0,0)):=by
 rw [qae (qae (qae (qae (qae (qae h 0 z0) 1 z1) 2 z2) 3 z3) 4 z4) 5 z5];rfl
theorem same6 (a:World) (g:Nat) (z0 z1 z2 z3 z4 z5:Value):a.grownBy ((((((a.setCell ⟨g,0,none⟩ z0).setCell ⟨g,1,none⟩ z1).setCell ⟨g,2,none⟩ z2).setCell ⟨g,3,none⟩ z3).setCell ⟨g,4,none⟩ z4).setCell ⟨g,5,none⟩ z5) (some g) :=
 qag (qag (qag (qag (qag (qag (World.grownBy.refl a (some g)) (p:=⟨g,0,none⟩) rfl z0) (p:=⟨g,1,none⟩) rfl z1) (p:=⟨g,2,none⟩) rfl z2) (p:=⟨g,3,none⟩) rfl z3) (p:=⟨g,4,none⟩) rfl z4) (p:=⟨g,5,none⟩) rfl z5
theorem bel6 {w a:World} {g:Nat} (h:Below w.heap.size w a) (hg:w.heap.size≤g) (z0 z1 z2 z3 z4 z5:Value):Below w.heap.size w ((((((a.setCell ⟨g,0,none⟩ z0).setCell ⟨g,1,none⟩ z1).setCell ⟨g,2,none⟩ z2).setCell ⟨g,3,none⟩ z3).setCell ⟨g,4,none⟩ z4).setCell ⟨g,5,none⟩ z5) :=
 qaq h (same6 a g z0 z1 z2 z3 z4 z5) hg
theorem qbg {w:World} {g:Nat} {z0 z1 z2 z3 z4 z5:Value} {T:TypeId} (h:w.heap[g]?=some (.cells #[z0,z1,z2,z3,z4,z5] T (0,0))) :
 (w.cell? ⟨g,0,none⟩=some z0∧w.cell? ⟨g,1,none⟩=some z1∧w.cell? ⟨g,2,none⟩=some z2∧w.cell? ⟨g,3,none⟩=some z3∧w.cell? ⟨g,4,none⟩=some z4∧w.cell? ⟨g,5,none⟩=some z5) ∧
 (w.frozen? ⟨g,0,none⟩=false∧w.frozen? ⟨g,1,none⟩=false∧w.frozen? ⟨g,2,none⟩=false∧w.frozen? ⟨g,3,none⟩=false∧w.frozen? ⟨g,4,none⟩=false∧w.frozen? ⟨g,5,none⟩=false) :=
 ⟨⟨by rw [qac h];rfl,by rw [qac h];rfl,by rw [qac h];rfl,by rw [qac h];rfl,by rw [qac h];rfl,by rw [qac h];rfl⟩,Lib.frozen_of_heap h 0,Lib.frozen_of_heap h 1,Lib.frozen_of_heap h 2,Lib.frozen_of_heap h 3,Lib.frozen_of_heap h 4,Lib.frozen_of_heap h 5⟩
theorem qdw (a b:Int) (s:Bool) (k:Int) (d t:ByteArray):qle #[.int .i64 a,.int .i64 b,.bool s,.int .i64 k,.string d,.string t]:=by
 intro o op t x h1 h2
 match o,h1,h2 with
 | 0,h1,_=>simp at h1
 | 1,h1,_=>simp at h1
 | 2,h1,_=>simp at h1
 | 3,h1,_=>simp at h1
 | 4,_,h2=>simp at h2
 | 5,_,h2=>simp at h2
 | o + 6,h1,_=>simp at h1
def RTakeP (s:ByteArray) (e:Ending) (w':World):Prop:=∃ r v ops,e=.returned (.tuple #[recV r,v])∧ErrV w' ops (rtC s.data.toList:Int) v∧ops.length≤10∧(rtC s.data.toList≠0→qgi ∈ ops∧r=zR)∧(rtC s.data.toList=0→r=recO s.data.toList)
theorem rtC_e {l:List UInt8} (h:(recR l).e≠0):rtC l=(recR l).e:=by unfold rtC;rw [if_pos h]
theorem rtC_chk {l:List UInt8} (h:(recR l).e=0):rtC l=recC (recO l):=by unfold rtC;rw [if_neg (by omega)]
set_option maxRecDepth 100000 in
set_option maxHeartbeats 8000000 in
theorem qxf (s:ByteArray) (w:World) (hg:Glob w) (hs:s.size≤1000000) :
 Calls Tryz.prog 66 #[.string s] w fun e w'=>RTakeP s e w'∧Below w.heap.size w w':=by
 have HRN:=hI (fun W=>qvh s W)
 have HDN:=hI (fun (b:Nat) (r:RS) (W:World) (h:Rdr b s r W)=>qqv b s r W h)
 have HEN:=hI (fun (b:Nat) (r:RS) (W:World) (h:Rdr b s r W) (hg:Glob W)=>qvj b s r W h hg)
 have HCK:=hI (fun (r:PR) (W:World) (hg:Glob W) (hd:r.dt.size≤1000000)=>qlf r W hg hd)
 have HRA:Hid (recA s.data.toList=numR s.data.toList 1000000 ⟨0,0⟩):=rfl
 have HRQ:Hid (recQ s.data.toList=numR s.data.toList 1000000 (recA s.data.toList).1):=rfl
 have HRF:Hid (recF s.data.toList=qdu s.data.toList (recQ s.data.toList).1):=rfl
 have HRS:Hid (recS s.data.toList=qcb s.data.toList 18000 (recF s.data.toList).1):=rfl
 have HRK:Hid (recK s.data.toList=numR s.data.toList 9 (recF s.data.toList).1):=rfl
 have HRD:Hid (recD s.data.toList=qcb s.data.toList 5000 (recK s.data.toList).1):=rfl
 have HRR:Hid (recR s.data.toList=if (recF s.data.toList).2 then endR s.data.toList (recS s.data.toList).1 else endR s.data.toList (recD s.data.toList).1):=rfl
 have HRO:Hid (recO s.data.toList=if (recF s.data.toList).2 then ⟨(recA s.data.toList).2,(recQ s.data.toList).2,true,0,⟨#[]⟩,⟨(recS s.data.toList).2.toArray⟩⟩ else ⟨(recA s.data.toList).2,(recQ s.data.toList).2,false,(recK s.data.toList).2,⟨(recD s.data.toList).2.toArray⟩,⟨#[]⟩⟩):=rfl
 have HTE:=hI (@rtC_e s.data.toList)
 have HTK:=hI (@rtC_chk s.data.toList)
 have hld:(recD s.data.toList).2.length≤5000:=qht s.data.toList 5000 (recK s.data.toList).1
 have HNM:Hid (∀ (b:Nat) (r r':RS) (n:Nat) (W:World),numR s.data.toList 1000000 r=(r',n)→Rdr b s r W→Glob W→Calls Tryz.prog 97 #[.pointer (some ⟨b,0,none⟩),.int .i64 1000000] W fun e w'=>e=.returned (.int .i64 (n:Int))∧RPost b s r' W w'):=fun b r r' n W hR h hg=>by
  have:=qoe b s r 1000000 W h hg hs
  rw [hR,show ((1000000:Nat):Int)=1000000 by omega] at this
  exact this
 have HNK:Hid (∀ (b:Nat) (r r':RS) (n:Nat) (W:World),numR s.data.toList 9 r=(r',n)→Rdr b s r W→Glob W→Calls Tryz.prog 97 #[.pointer (some ⟨b,0,none⟩),.int .i64 9] W fun e w'=>e=.returned (.int .i64 (n:Int))∧RPost b s r' W w'):=fun b r r' n W hR h hg=>by
  have:=qoe b s r 9 W h hg hs
  rw [hR,show ((9:Nat):Int)=9 by omega] at this
  exact this
 have HTS:Hid (∀ (b:Nat) (r r':RS) (n:List UInt8) (W:World),qcb s.data.toList 18000 r=(r',n)→Rdr b s r W→Glob W→Calls Tryz.prog 98 #[.pointer (some ⟨b,0,none⟩),.int .i64 18000] W fun e w'=>e=.returned (.string ⟨n.toArray⟩)∧RPost b s r' W w'):=fun b r r' n W hR h hg=>by
  have:=qld b s r 18000 W h hg hs
  rw [hR,show ((18000:Nat):Int)=18000 by omega] at this
  exact this
 have HTD:Hid (∀ (b:Nat) (r r':RS) (n:List UInt8) (W:World),qcb s.data.toList 5000 r=(r',n)→Rdr b s r W→Glob W→Calls Tryz.prog 98 #[.pointer (some ⟨b,0,none⟩),.int .i64 5000] W fun e w'=>e=.returned (.string ⟨n.toArray⟩)∧RPost b s r' W w'):=fun b r r' n W hR h hg=>by
  have:=qld b s r 5000 W h hg hs
  rw [hR,show ((5000:Nat):Int)=5000 by omega] at this
  exact this
 have HFL:Hid (∀ (b:Nat) (r r':RS) (n:Bool) (W:World),qdu s.data.toList r=(r',n)→Rdr b s r W→Glob W→Calls Tryz.prog 99 #[.pointer (some ⟨b,0,none⟩)] W fun e w'=>e=.returned (.bool n)∧RPost b s r' W w'):=fun b r r' n W hR h hg=>by
  have:=RFlag_any b s r W h hg hs
  rw [hR] at this
  exact this
 have HG:=hI hg
 generalize recA s.data.toList=rA at HRA HRQ HRO
 generalize recQ s.data.toList=rQ at HRQ HRF HRO
 generalize recF s.data.toList=rF at HRF HRS HRK HRR HRO
 generalize recS s.data.toList=rS at HRS HRR HRO
 generalize recK s.data.toList=rK at HRK HRD HRO
 generalize recD s.data.toList=rD at HRD HRR HRO hld
 obtain ⟨r1,n1⟩:=rA
 obtain ⟨r2,n2⟩:=rQ
 obtain ⟨r3,sn⟩:=rF
 obtain ⟨r4,t4⟩:=rS
 obtain ⟨r5,n5⟩:=rK
 obtain ⟨r6,t6⟩:=rD
 dsimp only at HRQ HRF HRS HRK HRD HRR HRO hld
 have hgl:0 < w.heap.size:=qan hg
 clear hg hs
 go_enter Tryz.func66,Tryz.ntmps66
 go_wp2_with fail
 refine (HRN.out _).mono ?_
 rintro e w1 ⟨rfl,rfl⟩
 go_wp2_with fail
 refine (HNM.out (w.heap.size + 1) ⟨0,0⟩ r1 n1 _ HRA.out.symm (Rdr.new2 s w _) (HG.out.below (qab (bel1 w _) _))).mono ?_
 rintro e w2 ⟨rfl,hP2⟩
 have G2:=hI (Glob.rpost (HG.out.below (qab (bel1 w _) _)) (Rdr.new2 s w _) hP2)
 have B2:Hid (Below w.heap.size w w2):=qaq (qab (bel1 w _) _) hP2.2 (by omega)
 have R2:=hI hP2.1
 have Z2:=hI (qap ((Below.heap_alloc _ _ _ (by simp)).trans (qcp w (.cells #[.int .i64 0,.int .i64 0,.bool false,.int .i64 0,.string ⟨#[]⟩,.string ⟨#[]⟩] 128))) hP2.2 (by omega))
 clear hP2
 go_wp2_with fail
 refine (HNM.out (w.heap.size + 1) r1 r2 n2 _ HRQ.out.symm R2.out G2.out).mono ?_
 rintro e w3 ⟨rfl,hP3⟩
 have G3:=hI (Glob.rpost G2.out R2.out hP3)
 have B3:Hid (Below w.heap.size w w3):=qaq B2.out hP3.2 (by omega)
 have R3:=hI hP3.1
 have Z3:=hI (qap Z2.out hP3.2 (by omega))
 clear hP3
 go_wp2_with fail
 refine (HFL.out (w.heap.size + 1) r2 r3 sn _ HRF.out.symm R3.out G3.out).mono ?_
 rintro e w4 ⟨rfl,hP4⟩
 have G4:=hI (Glob.rpost G3.out R3.out hP4)
 have B4:Hid (Below w.heap.size w w4):=qaq B3.out hP4.2 (by omega)
 have R4:=hI hP4.1
 have Z4:=hI (qap Z3.out hP4.2 (by omega))
 have hz4:w.heap.size + 2≤w4.heap.size:=by have:=R4.out.lt;omega
 clear hP4
 cases sn
 ·rw [if_neg (by simp)] at HRR HRO
  go_wp2_with fail
  refine (HNK.out (w.heap.size + 1) r3 r5 n5 _ HRK.out.symm (R4.out.below (bel1 w4 _)) (G4.out.below (bel1 w4 _))).mono ?_
  rintro e w5 ⟨rfl,hP5⟩
  have G5:=hI (Glob.rpost (G4.out.below (bel1 w4 _)) (R4.out.below (bel1 w4 _)) hP5)
  have B5:Hid (Below w.heap.size w w5):=qaq (qab B4.out _) hP5.2 (by omega)
  have R5:=hI hP5.1
  have Z5:=hI (qap ((Below.heap_alloc _ _ _ (qaa Z4.out)).trans Z4.out) hP5.2 (by omega))
  have M5:=hI (qap (qcp w4 (.cells #[.int .i64 (n1:Int),.int .i64 (n2:Int),.bool false,.int .i64 0,.string ⟨#[]⟩,.string ⟨#[]⟩] 128)) hP5.2 (by omega))
  clear hP5
  go_wp2_with fail
  refine (HTD.out (w.heap.size + 1) r5 r6 t6 _ HRD.out.symm R5.out G5.out).mono ?_
  rintro e w6 ⟨rfl,hP6⟩
  have G6:=hI (Glob.rpost G5.out R5.out hP6)
  have B6:Hid (Below w.heap.size w w6):=qaq B5.out hP6.2 (by omega)
  have R6:=hI hP6.1
  have Z6:=hI (qap Z5.out hP6.2 (by omega))
  have M6:=hI (qap M5.out hP6.2 (by omega))
  clear hP6
  obtain ⟨⟨-,-,-,c3,c4,-⟩,-,-,-,f3,f4,-⟩:=qbg M6.out
  have z6:w4.heap.size < w6.heap.size:=qaa M6.out
  have hgs:=qag (qag (World.grownBy.refl w6 (some w4.heap.size)) (p:=⟨w4.heap.size,3,none⟩) rfl (.int .i64 (n5:Int))) (p:=⟨w4.heap.size,4,none⟩) rfl (.string ⟨t6.toArray⟩)
  have RSS:=hI (R6.out.grown M6.out (qdw _ _ _ _ _ _) hgs (by omega))
  have GS:Hid (Glob ((w6.setCell ⟨w4.heap.size,3,none⟩ (.int .i64 (n5:Int))).setCell ⟨w4.heap.size,4,none⟩ (.string ⟨t6.toArray⟩))):=hgs.cell G6.out (by intro e;injection e with e;simp only at e;omega)
  have BS:Hid (Below w.heap.size w ((w6.setCell ⟨w4.heap.size,3,none⟩ (.int .i64 (n5:Int))).setCell ⟨w4.heap.size,4,none⟩ (.string ⟨t6.toArray⟩))):=qaq B6.out hgs (by omega)
  have ZS:=hI (qap Z6.out hgs (by omega))
  have MS:Hid (((w6.setCell ⟨w4.heap.size,3,none⟩ (.int .i64 (n5:Int))).setCell ⟨w4.heap.size,4,none⟩ (.string ⟨t6.toArray⟩)).heap[w4.heap.size]?=some (.cells #[.int .i64 (n1:Int),.int .i64 (n2:Int),.bool false,.int .i64 (n5:Int),.string ⟨t6.toArray⟩,.string ⟨#[]⟩] 128 (0,0))):=by show _=_;rw [qae (qae M6.out 3 (.int .i64 (n5:Int))) 4 (.string ⟨t6.toArray⟩)];rfl
  clear hgs
  go_wp2_with fail
  generalize ((w6.setCell ⟨w4.heap.size,3,none⟩ (.int .i64 (n5:Int))).setCell ⟨w4.heap.size,4,none⟩ (.string ⟨t6.toArray⟩))=wS at RSS GS BS ZS MS ⊢
  have hdd:(⟨t6.toArray⟩:ByteArray).size≤1000000:=by rw [qaz];omega
  generalize (⟨t6.toArray⟩:ByteArray)=dd at MS HRO hdd ⊢
  generalize (⟨#[]⟩:ByteArray)=ss at MS HRO
  generalize (n5:Int)=kk at MS HRO ⊢
  generalize r6=rl at RSS HRR
  generalize false=sn at MS HRO
  clear c3 c4 f3 f4 z6
  refine (HEN.out (w.heap.size + 1) rl wS RSS.out GS.out).mono ?_
  rintro e w7 ⟨rfl,hP7⟩
  rw [←HRR.out] at hP7
  have G7:=hI (Glob.rpost GS.out RSS.out hP7)
  have B7:Hid (Below w.heap.size w w7):=qaq BS.out hP7.2 (by omega)
  have R7:=hI hP7.1
  have Z7:=hI (qap ZS.out hP7.2 (by omega))
  have M7:=hI (qap MS.out hP7.2 (by omega))
  clear hP7
  go_wp2_with fail
  refine (HDN.out (w.heap.size + 1) _ w7 R7.out).mono ?_
  rintro e w8 ⟨ev,rfl,hfv,rfl⟩
  rcases hfv with ⟨he,rfl⟩ | ⟨he,op,ops,hol,hch⟩
  ·have HTV:=hI (HTK.out he)
   clear he
   obtain ⟨⟨c0,c1,c2,c3,c4,c5⟩,-⟩:=qbg M7.out
   have z7:w4.heap.size < w7.heap.size:=qaa M7.out
   go_wp2_with fail
   refine (HCK.out ⟨(n1:Int),(n2:Int),sn,kk,dd,ss⟩ w7 G7.out hdd).mono ?_
   rintro e w9 ⟨⟨v,rfl,hv⟩,hb9⟩
   rw [←HRO.out] at hv
   have B9:=hI (qad B7.out hb9)
   have Z9:=hI ((hb9.block _ (qaa Z7.out)).trans Z7.out)
   have M9:=hI ((hb9.block _ (qaa M7.out)).trans M7.out)
   clear hb9 c0 c1 c2 c3 c4 c5 z7
   rcases qla (recO s.data.toList) with h0 | h0
   ·rw [h0] at hv
    obtain rfl:v=.nilIface:=qef hv
    have HT0:Hid (rtC s.data.toList=0):=by show _=_;rw [HTV.out];exact h0
    have HALL:=hI (And.intro (qjk Z9.out (.int .i64 (n1:Int)) (.int .i64 (n2:Int)) (.bool sn) (.int .i64 kk) (.string dd) (.string ss)) (bel6 B9.out (Nat.le_refl _) (.int .i64 (n1:Int)) (.int .i64 (n2:Int)) (.bool sn) (.int .i64 kk) (.string dd) (.string ss)))
    clear h0 hv
    obtain ⟨⟨c0,c1,c2,c3,c4,c5⟩,-⟩:=qbg M9.out
    obtain ⟨⟨x0,x1,x2,x3,x4,x5⟩,u0,u1,u2,u3,u4,u5⟩:=qbg Z9.out
    have z9:w4.heap.size < w9.heap.size:=qaa M9.out
    have zz9:w.heap.size < w9.heap.size:=qaa Z9.out
    go_wp2
    generalize ((((((w9.setCell ⟨w.heap.size,0,none⟩ (.int .i64 (n1:Int))).setCell ⟨w.heap.size,1,none⟩ (.int .i64 (n2:Int))).setCell ⟨w.heap.size,2,none⟩ (.bool sn)).setCell ⟨w.heap.size,3,none⟩ (.int .i64 kk)).setCell ⟨w.heap.size,4,none⟩ (.string dd)).setCell ⟨w.heap.size,5,none⟩ (.string ss))=wf at HALL ⊢
    obtain ⟨hF,hFin⟩:=HALL.out
    obtain ⟨⟨y0,y1,y2,y3,y4,y5⟩,-⟩:=qbg hF
    refine bodyPost_ret (v:=.tuple #[.agg #[.int .i64 (n1:Int),.int .i64 (n2:Int),.bool sn,.int .i64 kk,.string dd,.string ss],.nilIface]) (by simp [results,Tryz.results66,go_sem,y0,y1,y2,y3,y4,y5]) rfl ?_
    exact ⟨⟨⟨(n1:Int),(n2:Int),sn,kk,dd,ss⟩,.nilIface,[],rfl,Or.inl ⟨by rw [HT0.out];rfl,rfl,rfl⟩,by simp,fun h=>absurd HT0.out h,fun _=>HRO.out.symm⟩,hFin⟩
   ·rw [h0] at hv
    have hch:=qdq hv (by decide)
    have HT0:Hid (rtC s.data.toList=2):=by show _=_;rw [HTV.out];exact h0
    have HWr:=hI (qdo qgi [qfa] 2 v w9 (by simpa using hch))
    obtain ⟨t1,u1,rfl⟩:∃ t u,v=.iface t u:=qar hch
    clear h0 hv hch
    go_wp2_with fail
    refine HWr.out.mono ?_
    rintro e w10 ⟨v,rfl,hch,hb10⟩
    have B10:=hI (qad B9.out hb10)
    have Z10:=hI ((hb10.block _ (qaa Z9.out)).trans Z9.out)
    have HCH:=hI hch
    clear hb10 hch
    have HALL:=hI (And.intro (qjk Z10.out (.int .i64 0) (.int .i64 0) (.bool false) (.int .i64 0) (.string ⟨#[]⟩) (.string ⟨#[]⟩)) (And.intro (same6 w10 w.heap.size (.int .i64 0) (.int .i64 0) (.bool false) (.int .i64 0) (.string ⟨#[]⟩) (.string ⟨#[]⟩)) (bel6 B10.out (Nat.le_refl _) (.int .i64 0) (.int .i64 0) (.bool false) (.int .i64 0) (.string ⟨#[]⟩) (.string ⟨#[]⟩))))
    obtain ⟨⟨x0,x1,x2,x3,x4,x5⟩,u0,u1,u2,u3,u4,u5⟩:=qbg Z10.out
    have zz10:w.heap.size < w10.heap.size:=qaa Z10.out
    go_wp2
    generalize ((((((w10.setCell ⟨w.heap.size,0,none⟩ (.int .i64 0)).setCell ⟨w.heap.size,1,none⟩ (.int .i64 0)).setCell ⟨w.heap.size,2,none⟩ (.bool false)).setCell ⟨w.heap.size,3,none⟩ (.int .i64 0)).setCell ⟨w.heap.size,4,none⟩ (.string ⟨#[]⟩)).setCell ⟨w.heap.size,5,none⟩ (.string ⟨#[]⟩))=wf at HALL ⊢
    obtain ⟨hF,hsm,hFin⟩:=HALL.out
    obtain ⟨⟨y0,y1,y2,y3,y4,y5⟩,-⟩:=qbg hF
    refine bodyPost_ret (v:=.tuple #[.agg #[.int .i64 0,.int .i64 0,.bool false,.int .i64 0,.string ⟨#[]⟩,.string ⟨#[]⟩],v]) (by simp [results,Tryz.results66,go_sem,y0,y1,y2,y3,y4,y5]) rfl ?_
    exact ⟨⟨zR,v,[qgi,qfa],rfl,Or.inr ⟨by rw [HT0.out];decide,by rw [HT0.out];exact qcd Z10.out (qdw _ _ _ _ _ _) hsm HCH.out⟩,by simp,fun _=>⟨by simp,rfl⟩,fun h=>by rw [HT0.out] at h;cases h⟩,hFin⟩
  ·have HTV:=hI (HTE.out he)
   have HWr:=hI (qdo qgi (op :: ops) _ ev w7 hch)
   have HE:=hI he
   have HOL:=hI hol
   obtain ⟨t1,u1,rfl⟩:∃ t u,ev=.iface t u:=qar hch
   clear he hol hch
   go_wp2_with fail
   refine HWr.out.mono ?_
   rintro e w10 ⟨v,rfl,hch,hb10⟩
   have B10:=hI (qad B7.out hb10)
   have Z10:=hI ((hb10.block _ (qaa Z7.out)).trans Z7.out)
   have HCH:=hI hch
   clear hb10 hch
   have HALL:=hI (And.intro (qjk Z10.out (.int .i64 0) (.int .i64 0) (.bool false) (.int .i64 0) (.string ⟨#[]⟩) (.string ⟨#[]⟩)) (And.intro (same6 w10 w.heap.size (.int .i64 0) (.int .i64 0) (.bool false) (.int .i64 0) (.string ⟨#[]⟩) (.string ⟨#[]⟩)) (bel6 B10.out (Nat.le_refl _) (.int .i64 0) (.int .i64 0) (.bool false) (.int .i64 0) (.string ⟨#[]⟩) (.string ⟨#[]⟩))))
   obtain ⟨⟨x0,x1,x2,x3,x4,x5⟩,u0,u1,u2,u3,u4,u5⟩:=qbg Z10.out
   have zz10:w.heap.size < w10.heap.size:=qaa Z10.out
   go_wp2
   generalize ((((((w10.setCell ⟨w.heap.size,0,none⟩ (.int .i64 0)).setCell ⟨w.heap.size,1,none⟩ (.int .i64 0)).setCell ⟨w.heap.size,2,none⟩ (.bool false)).setCell ⟨w.heap.size,3,none⟩ (.int .i64 0)).setCell ⟨w.heap.size,4,none⟩ (.string ⟨#[]⟩)).setCell ⟨w.heap.size,5,none⟩ (.string ⟨#[]⟩))=wf at HALL ⊢
   obtain ⟨hF,hsm,hFin⟩:=HALL.out
   obtain ⟨⟨y0,y1,y2,y3,y4,y5⟩,-⟩:=qbg hF
   refine bodyPost_ret (v:=.tuple #[.agg #[.int .i64 0,.int .i64 0,.bool false,.int .i64 0,.string ⟨#[]⟩,.string ⟨#[]⟩],v]) (by simp [results,Tryz.results66,go_sem,y0,y1,y2,y3,y4,y5]) rfl ?_
   refine ⟨⟨zR,v,qgi :: op :: ops,rfl,Or.inr ⟨by rw [HTV.out];have:=HE.out;omega,by rw [HTV.out];exact qcd Z10.out (qdw _ _ _ _ _ _) hsm HCH.out⟩,by have:=HOL.out;simp;omega,fun _=>⟨by simp,rfl⟩,fun h=>absurd (by rw [←HTV.out,h]) HE.out⟩,hFin⟩
 ·rw [if_pos rfl] at HRR HRO
  go_wp2_with fail
  refine (HTS.out (w.heap.size + 1) r3 r4 t4 _ HRS.out.symm (R4.out.below (bel1 w4 _)) (G4.out.below (bel1 w4 _))).mono ?_
  rintro e w6 ⟨rfl,hP6⟩
  have G6:=hI (Glob.rpost (G4.out.below (bel1 w4 _)) (R4.out.below (bel1 w4 _)) hP6)
  have B6:Hid (Below w.heap.size w w6):=qaq (qab B4.out _) hP6.2 (by omega)
  have R6:=hI hP6.1
  have Z6:=hI (qap ((Below.heap_alloc _ _ _ (qaa Z4.out)).trans Z4.out) hP6.2 (by omega))
  have M6:=hI (qap (qcp w4 (.cells #[.int .i64 (n1:Int),.int .i64 (n2:Int),.bool true,.int .i64 0,.string ⟨#[]⟩,.string ⟨#[]⟩] 128)) hP6.2 (by omega))
  clear hP6
  obtain ⟨⟨-,-,-,-,-,c5⟩,-,-,-,-,-,f5⟩:=qbg M6.out
  have z6:w4.heap.size < w6.heap.size:=qaa M6.out
  have hgs:=qag (World.grownBy.refl w6 (some w4.heap.size)) (p:=⟨w4.heap.size,5,none⟩) rfl (.string ⟨t4.toArray⟩)
  have RSS:=hI (R6.out.grown M6.out (qdw _ _ _ _ _ _) hgs (by omega))
  have GS:Hid (Glob (w6.setCell ⟨w4.heap.size,5,none⟩ (.string ⟨t4.toArray⟩))):=hgs.cell G6.out (by intro e;injection e with e;simp only at e;omega)
  have BS:Hid (Below w.heap.size w (w6.setCell ⟨w4.heap.size,5,none⟩ (.string ⟨t4.toArray⟩))):=qaq B6.out hgs (by omega)
  have ZS:=hI (qap Z6.out hgs (by omega))
  have MS:Hid ((w6.setCell ⟨w4.heap.size,5,none⟩ (.string ⟨t4.toArray⟩)).heap[w4.heap.size]?=some (.cells #[.int .i64 (n1:Int),.int .i64 (n2:Int),.bool true,.int .i64 0,.string ⟨#[]⟩,.string ⟨t4.toArray⟩] 128 (0,0))):=by show _=_;rw [qae M6.out 5 (.string ⟨t4.toArray⟩)];rfl
  clear hgs
  go_wp2_with fail
  generalize (w6.setCell ⟨w4.heap.size,5,none⟩ (.string ⟨t4.toArray⟩))=wS at RSS GS BS ZS MS ⊢
  generalize (⟨t4.toArray⟩:ByteArray)=ss at MS HRO ⊢
  have hdd:(⟨#[]⟩:ByteArray).size≤1000000:=by decide
  generalize (⟨#[]⟩:ByteArray)=dd at MS HRO hdd
  generalize (0:Int)=kk at MS HRO
  generalize r4=rl at RSS HRR
  generalize true=sn at MS HRO
  clear c5 f5 z6
  refine (HEN.out (w.heap.size + 1) rl wS RSS.out GS.out).mono ?_
  rintro e w7 ⟨rfl,hP7⟩
  rw [←HRR.out] at hP7
  have G7:=hI (Glob.rpost GS.out RSS.out hP7)
  have B7:Hid (Below w.heap.size w w7):=qaq BS.out hP7.2 (by omega)
  have R7:=hI hP7.1
  have Z7:=hI (qap ZS.out hP7.2 (by omega))
  have M7:=hI (qap MS.out hP7.2 (by omega))
  clear hP7
  go_wp2_with fail
  refine (HDN.out (w.heap.size + 1) _ w7 R7.out).mono ?_
  rintro e w8 ⟨ev,rfl,hfv,rfl⟩
  rcases hfv with ⟨he,rfl⟩ | ⟨he,op,ops,hol,hch⟩
  ·have HTV:=hI (HTK.out he)
   clear he
   obtain ⟨⟨c0,c1,c2,c3,c4,c5⟩,-⟩:=qbg M7.out
   have z7:w4.heap.size < w7.heap.size:=qaa M7.out
   go_wp2_with fail
   refine (HCK.out ⟨(n1:Int),(n2:Int),sn,kk,dd,ss⟩ w7 G7.out hdd).mono ?_
   rintro e w9 ⟨⟨v,rfl,hv⟩,hb9⟩
   rw [←HRO.out] at hv
   have B9:=hI (qad B7.out hb9)
   have Z9:=hI ((hb9.block _ (qaa Z7.out)).trans Z7.out)
   have M9:=hI ((hb9.block _ (qaa M7.out)).trans M7.out)
   clear hb9 c0 c1 c2 c3 c4 c5 z7
   rcases qla (recO s.data.toList) with h0 | h0
   ·rw [h0] at hv
    obtain rfl:v=.nilIface:=qef hv
    have HT0:Hid (rtC s.data.toList=0):=by show _=_;rw [HTV.out];exact h0
    have HALL:=hI (And.intro (qjk Z9.out (.int .i64 (n1:Int)) (.int .i64 (n2:Int)) (.bool sn) (.int .i64 kk) (.string dd) (.string ss)) (bel6 B9.out (Nat.le_refl _) (.int .i64 (n1:Int)) (.int .i64 (n2:Int)) (.bool sn) (.int .i64 kk) (.string dd) (.string ss)))
    clear h0 hv
    obtain ⟨⟨c0,c1,c2,c3,c4,c5⟩,-⟩:=qbg M9.out
    obtain ⟨⟨x0,x1,x2,x3,x4,x5⟩,u0,u1,u2,u3,u4,u5⟩:=qbg Z9.out
    have z9:w4.heap.size < w9.heap.size:=qaa M9.out
    have zz9:w.heap.size < w9.heap.size:=qaa Z9.out
    go_wp2
    generalize ((((((w9.setCell ⟨w.heap.size,0,none⟩ (.int .i64 (n1:Int))).setCell ⟨w.heap.size,1,none⟩ (.int .i64 (n2:Int))).setCell ⟨w.heap.size,2,none⟩ (.bool sn)).setCell ⟨w.heap.size,3,none⟩ (.int .i64 kk)).setCell ⟨w.heap.size,4,none⟩ (.string dd)).setCell ⟨w.heap.size,5,none⟩ (.string ss))=wf at HALL ⊢
    obtain ⟨hF,hFin⟩:=HALL.out
    obtain ⟨⟨y0,y1,y2,y3,y4,y5⟩,-⟩:=qbg hF
    refine bodyPost_ret (v:=.tuple #[.agg #[.int .i64 (n1:Int),.int .i64 (n2:Int),.bool sn,.int .i64 kk,.string dd,.string ss],.nilIface]) (by simp [results,Tryz.results66,go_sem,y0,y1,y2,y3,y4,y5]) rfl ?_
    exact ⟨⟨⟨(n1:Int),(n2:Int),sn,kk,dd,ss⟩,.nilIface,[],rfl,Or.inl ⟨by rw [HT0.out];rfl,rfl,rfl⟩,by simp,fun h=>absurd HT0.out h,fun _=>HRO.out.symm⟩,hFin⟩
   ·rw [h0] at hv
    have hch:=qdq hv (by decide)
    have HT0:Hid (rtC s.data.toList=2):=by show _=_;rw [HTV.out];exact h0
    have HWr:=hI (qdo qgi [qfa] 2 v w9 (by simpa using hch))
    obtain ⟨t1,u1,rfl⟩:∃ t u,v=.iface t u:=qar hch
    clear h0 hv hch
    go_wp2_with fail
    refine HWr.out.mono ?_
    rintro e w10 ⟨v,rfl,hch,hb10⟩
    have B10:=hI (qad B9.out hb10)
    have Z10:=hI ((hb10.block _ (qaa Z9.out)).trans Z9.out)
    have HCH:=hI hch
    clear hb10 hch
    have HALL:=hI (And.intro (qjk Z10.out (.int .i64 0) (.int .i64 0) (.bool false) (.int .i64 0) (.string ⟨#[]⟩) (.string ⟨#[]⟩)) (And.intro (same6 w10 w.heap.size (.int .i64 0) (.int .i64 0) (.bool false) (.int .i64 0) (.string ⟨#[]⟩) (.string ⟨#[]⟩)) (bel6 B10.out (Nat.le_refl _) (.int .i64 0) (.int .i64 0) (.bool false) (.int .i64 0) (.string ⟨#[]⟩) (.string ⟨#[]⟩))))
    obtain ⟨⟨x0,x1,x2,x3,x4,x5⟩,u0,u1,u2,u3,u4,u5⟩:=qbg Z10.out
    have zz10:w.heap.size < w10.heap.size:=qaa Z10.out
    go_wp2
    generalize ((((((w10.setCell ⟨w.heap.size,0,none⟩ (.int .i64 0)).setCell ⟨w.heap.size,1,none⟩ (.int .i64 0)).setCell ⟨w.heap.size,2,none⟩ (.bool false)).setCell ⟨w.heap.size,3,none⟩ (.int .i64 0)).setCell ⟨w.heap.size,4,none⟩ (.string ⟨#[]⟩)).setCell ⟨w.heap.size,5,none⟩ (.string ⟨#[]⟩))=wf at HALL ⊢
    obtain ⟨hF,hsm,hFin⟩:=HALL.out
    obtain ⟨⟨y0,y1,y2,y3,y4,y5⟩,-⟩:=qbg hF
    refine bodyPost_ret (v:=.tuple #[.agg #[.int .i64 0,.int .i64 0,.bool false,.int .i64 0,.string ⟨#[]⟩,.string ⟨#[]⟩],v]) (by simp [results,Tryz.results66,go_sem,y0,y1,y2,y3,y4,y5]) rfl ?_
    exact ⟨⟨zR,v,[qgi,qfa],rfl,Or.inr ⟨by rw [HT0.out];decide,by rw [HT0.out];exact qcd Z10.out (qdw _ _ _ _ _ _) hsm HCH.out⟩,by simp,fun _=>⟨by simp,rfl⟩,fun h=>by rw [HT0.out] at h;cases h⟩,hFin⟩
  ·have HTV:=hI (HTE.out he)
   have HWr:=hI (qdo qgi (op :: ops) _ ev w7 hch)
   have HE:=hI he
   have HOL:=hI hol
   obtain ⟨t1,u1,rfl⟩:∃ t u,ev=.iface t u:=qar hch
   clear he hol hch
   go_wp2_with fail
   refine HWr.out.mono ?_
   rintro e w10 ⟨v,rfl,hch,hb10⟩
   have B10:=hI (qad B7.out hb10)
   have Z10:=hI ((hb10.block _ (qaa Z7.out)).trans Z7.out)
   have HCH:=hI hch
   clear hb10 hch
   have HALL:=hI (And.intro (qjk Z10.out (.int .i64 0) (.int .i64 0) (.bool false) (.int .i64 0) (.string ⟨#[]⟩) (.string ⟨#[]⟩)) (And.intro (same6 w10 w.heap.size (.int .i64 0) (.int .i64 0) (.bool false) (.int .i64 0) (.string ⟨#[]⟩) (.string ⟨#[]⟩)) (bel6 B10.out (Nat.le_refl _) (.int .i64 0) (.int .i64 0) (.bool false) (.int .i64 0) (.string ⟨#[]⟩) (.string ⟨#[]⟩))))
   obtain ⟨⟨x0,x1,x2,x3,x4,x5⟩,u0,u1,u2,u3,u4,u5⟩:=qbg Z10.out
   have zz10:w.heap.size < w10.heap.size:=qaa Z10.out
   go_wp2
   generalize ((((((w10.setCell ⟨w.heap.size,0,none⟩ (.int .i64 0)).setCell ⟨w.heap.size,1,none⟩ (.int .i64 0)).setCell ⟨w.heap.size,2,none⟩ (.bool false)).setCell ⟨w.heap.size,3,none⟩ (.int .i64 0)).setCell ⟨w.heap.size,4,none⟩ (.string ⟨#[]⟩)).setCell ⟨w.heap.size,5,none⟩ (.string ⟨#[]⟩))=wf at HALL ⊢
   obtain ⟨hF,hsm,hFin⟩:=HALL.out
   obtain ⟨⟨y0,y1,y2,y3,y4,y5⟩,-⟩:=qbg hF
   refine bodyPost_ret (v:=.tuple #[.agg #[.int .i64 0,.int .i64 0,.bool false,.int .i64 0,.string ⟨#[]⟩,.string ⟨#[]⟩],v]) (by simp [results,Tryz.results66,go_sem,y0,y1,y2,y3,y4,y5]) rfl ?_
   refine ⟨⟨zR,v,qgi :: op :: ops,rfl,Or.inr ⟨by rw [HTV.out];have:=HE.out;omega,by rw [HTV.out];exact qcd Z10.out (qdw _ _ _ _ _ _) hsm HCH.out⟩,by have:=HOL.out;simp;omega,fun _=>⟨by simp,rfl⟩,fun h=>absurd (by rw [←HTV.out,h]) HE.out⟩,hFin⟩
end Go.Proofs.YtjkecckndfcbjaaGreatDoor
