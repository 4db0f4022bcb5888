/- Texts that the law leans on. -/
import Derived.Test.YtjkecckndfcbjaaGreatDoorKRowA
import Derived.BigRegion
namespace Go.Proofs.YtjkecckndfcbjaaGreatDoor
open Go.RowKit Go.Sort Go.Lib
def NameR (k:Int) (e:Ending):Prop:=∃ s:ByteArray,e=.returned (.string s)∧s.toList.isEmpty=decide (k < 1∨10 < k)
set_option maxRecDepth 100000 in
set_option maxHeartbeats 2000000 in
theorem Name_any (k:Int) (w:World) :
 Calls Tryz.prog 164 #[.int .i64 k] w fun e w'=>NameR k e∧Below w.heap.size w w':=by
 by_cases h0:k < 0
 ·go_enter Tryz.func164,Tryz.ntmps164
  go_wp2
  go_ret
  exact ⟨⟨_,rfl,by rw [Lib.toList_data];symm;simp;omega⟩,bel1 w _⟩
 ·by_cases h1:10 < k
  ·have h0':decide (k < 0)=false:=by simp;omega
   have h2:(11:Int)≤k:=by omega
   clear h0
   go_enter Tryz.func164,Tryz.ntmps164
   go_wp2
   go_ret
   exact ⟨⟨_,rfl,by rw [Lib.toList_data];symm;simp;omega⟩,bel1 w _⟩
  ·have:k=0∨k=1∨k=2∨k=3∨k=4∨k=5∨k=6∨k=7∨k=8∨k=9∨k=10:=by omega
   rcases this with rfl | rfl | rfl | rfl | rfl | rfl | rfl | rfl | rfl | rfl | rfl
   all_goals
    go_enter Tryz.func164,Tryz.ntmps164
    go_wp2
    go_ret
    exact ⟨⟨_,rfl,by rw [Lib.toList_data];rfl⟩,bel1 w _⟩
def mayB (m:PM):Bool:=if m.k=10 then proB m else okId m.id && (if m.k=1∨m.k=5 then qbn m.t && carB m else if m.k=3 then qbn m.t && qbn m.bal && carB m else if m.k=6 then qbn m.bal && carB m else if m.k=9 then carB m else if m.k=2 then qbn m.t else if m.k=7 then qbn m.bal && tolB m else qbn m.bal)
set_option maxRecDepth 100000 in
set_option maxHeartbeats 2000000 in
theorem may1_any (m:PM) (w:World) (hm:RdM w m) (hk:m.k=1) :
 Calls Tryz.prog 167 #[msgV m] w fun e w'=>e=.returned (.bool (mayB m))∧Below w.heap.size w w':=by
 have HI:=hI (fun W=>qca m.id W)
 have HT:=hI (fun W=>qef m.t W)
 have HL:=hI (fun W=>qcw m.bal W)
 have HC:=hI (fun W=>qci m W hm.sp)
 have HD:=hI (fun W=>qes m W)
 have hne:=qhq m.id
 have HM:Hid (mayB m=(okId m.id && (qbn m.t && carB m))):=by show _=_;unfold mayB;simp [hk]
 unfold msgV at HC HD ⊢
 rw [hk] at HC HD ⊢
 generalize okId m.id=fI at hne HM
 generalize qbn m.t=fT at HT HM
 generalize carB m=fC at HC HM
 clear hk hm
 cases fI <;> cases fT <;> cases fC
 all_goals
  go_enter Tryz.func167,Tryz.ntmps167
  go_wp2_with (first | (go_at_call 179;refine (HI.out _).mono ?_;rintro e w' ⟨rfl,rfl⟩) | (go_at_call 180;refine (HT.out _).mono ?_;rintro e w' ⟨rfl,rfl⟩) | (go_at_call 182;refine (HL.out _).mono ?_;rintro e w' ⟨rfl,rfl⟩) | (go_at_call 181;refine (HC.out _).mono ?_;rintro e w1 ⟨rfl,hb1⟩;have HB1:=hI (qac (bel1 w _) hb1);clear hb1) | (go_at_call 183;refine (HD.out _).mono ?_;rintro e w1 ⟨rfl,hb1⟩;have HB1:=hI (qac (bel1 w _) hb1);clear hb1))
  go_ret
  first
  | exact ⟨qah (by rw [HM.out];rfl),HB1.out⟩
  | exact ⟨qah (by rw [HM.out];rfl),bel1 w _⟩
set_option maxRecDepth 100000 in
set_option maxHeartbeats 2000000 in
theorem may2_any (m:PM) (w:World) (hm:RdM w m) (hk:m.k=2) :
 Calls Tryz.prog 167 #[msgV m] w fun e w'=>e=.returned (.bool (mayB m))∧Below w.heap.size w w':=by
 have HI:=hI (fun W=>qca m.id W)
 have HT:=hI (fun W=>qef m.t W)
 have HL:=hI (fun W=>qcw m.bal W)
 have HC:=hI (fun W=>qci m W hm.sp)
 have HD:=hI (fun W=>qes m W)
 have hne:=qhq m.id
 have HM:Hid (mayB m=(okId m.id && (qbn m.t))):=by show _=_;unfold mayB;simp [hk]
 unfold msgV at HC HD ⊢
 rw [hk] at HC HD ⊢
 generalize okId m.id=fI at hne HM
 generalize qbn m.t=fT at HT HM
 clear hk hm
 cases fI <;> cases fT
 all_goals
  go_enter Tryz.func167,Tryz.ntmps167
  go_wp2_with (first | (go_at_call 179;refine (HI.out _).mono ?_;rintro e w' ⟨rfl,rfl⟩) | (go_at_call 180;refine (HT.out _).mono ?_;rintro e w' ⟨rfl,rfl⟩) | (go_at_call 182;refine (HL.out _).mono ?_;rintro e w' ⟨rfl,rfl⟩) | (go_at_call 181;refine (HC.out _).mono ?_;rintro e w1 ⟨rfl,hb1⟩;have HB1:=hI (qac (bel1 w _) hb1);clear hb1) | (go_at_call 183;refine (HD.out _).mono ?_;rintro e w1 ⟨rfl,hb1⟩;have HB1:=hI (qac (bel1 w _) hb1);clear hb1))
  go_ret
  first
  | exact ⟨qah (by rw [HM.out];rfl),HB1.out⟩
  | exact ⟨qah (by rw [HM.out];rfl),bel1 w _⟩
set_option maxRecDepth 100000 in
set_option maxHeartbeats 2000000 in
theorem may3_any (m:PM) (w:World) (hm:RdM w m) (hk:m.k=3) :
 Calls Tryz.prog 167 #[msgV m] w fun e w'=>e=.returned (.bool (mayB m))∧Below w.heap.size w w':=by
 have HI:=hI (fun W=>qca m.id W)
 have HT:=hI (fun W=>qef m.t W)
 have HL:=hI (fun W=>qcw m.bal W)
 have HC:=hI (fun W=>qci m W hm.sp)
 have HD:=hI (fun W=>qes m W)
 have hne:=qhq m.id
 have HM:Hid (mayB m=(okId m.id && (qbn m.t && qbn m.bal && carB m))):=by show _=_;unfold mayB;simp [hk]
 unfold msgV at HC HD ⊢
 rw [hk] at HC HD ⊢
 generalize okId m.id=fI at hne HM
 generalize qbn m.t=fT at HT HM
 generalize qbn m.bal=fL at HL HM
 generalize carB m=fC at HC HM
 clear hk hm
 cases fI <;> cases fT <;> cases fL <;> cases fC
 all_goals
  go_enter Tryz.func167,Tryz.ntmps167
  go_wp2_with (first | (go_at_call 179;refine (HI.out _).mono ?_;rintro e w' ⟨rfl,rfl⟩) | (go_at_call 180;refine (HT.out _).mono ?_;rintro e w' ⟨rfl,rfl⟩) | (go_at_call 182;refine (HL.out _).mono ?_;rintro e w' ⟨rfl,rfl⟩) | (go_at_call 181;refine (HC.out _).mono ?_;rintro e w1 ⟨rfl,hb1⟩;have HB1:=hI (qac (bel1 w _) hb1);clear hb1) | (go_at_call 183;refine (HD.out _).mono ?_;rintro e w1 ⟨rfl,hb1⟩;have HB1:=hI (qac (bel1 w _) hb1);clear hb1))
  go_ret
  first
  | exact ⟨qah (by rw [HM.out];rfl),HB1.out⟩
  | exact ⟨qah (by rw [HM.out];rfl),bel1 w _⟩
set_option maxRecDepth 100000 in
set_option maxHeartbeats 2000000 in
theorem may4_any (m:PM) (w:World) (hm:RdM w m) (hk:m.k=4) :
 Calls Tryz.prog 167 #[msgV m] w fun e w'=>e=.returned (.bool (mayB m))∧Below w.heap.size w w':=by
 have HI:=hI (fun W=>qca m.id W)
 have HT:=hI (fun W=>qef m.t W)
 have HL:=hI (fun W=>qcw m.bal W)
 have HC:=hI (fun W=>qci m W hm.sp)
 have HD:=hI (fun W=>qes m W)
 have hne:=qhq m.id
 have HM:Hid (mayB m=(okId m.id && (qbn m.bal))):=by show _=_;unfold mayB;simp [hk]
 unfold msgV at HC HD ⊢
 rw [hk] at HC HD ⊢
 generalize okId m.id=fI at hne HM
 generalize qbn m.bal=fL at HL HM
 clear hk hm
 cases fI <;> cases fL
 all_goals
  go_enter Tryz.func167,Tryz.ntmps167
  go_wp2_with (first | (go_at_call 179;refine (HI.out _).mono ?_;rintro e w' ⟨rfl,rfl⟩) | (go_at_call 180;refine (HT.out _).mono ?_;rintro e w' ⟨rfl,rfl⟩) | (go_at_call 182;refine (HL.out _).mono ?_;rintro e w' ⟨rfl,rfl⟩) | (go_at_call 181;refine (HC.out _).mono ?_;rintro e w1 ⟨rfl,hb1⟩;have HB1:=hI (qac (bel1 w _) hb1);clear hb1) | (go_at_call 183;refine (HD.out _).mono ?_;rintro e w1 ⟨rfl,hb1⟩;have HB1:=hI (qac (bel1 w _) hb1);clear hb1))
  go_ret
  first
  | exact ⟨qah (by rw [HM.out];rfl),HB1.out⟩
  | exact ⟨qah (by rw [HM.out];rfl),bel1 w _⟩
set_option maxRecDepth 100000 in
set_option maxHeartbeats 2000000 in
theorem may5_any (m:PM) (w:World) (hm:RdM w m) (hk:m.k=5) :
 Calls Tryz.prog 167 #[msgV m] w fun e w'=>e=.returned (.bool (mayB m))∧Below w.heap.size w w':=by
 have HI:=hI (fun W=>qca m.id W)
 have HT:=hI (fun W=>qef m.t W)
 have HL:=hI (fun W=>qcw m.bal W)
 have HC:=hI (fun W=>qci m W hm.sp)
 have HD:=hI (fun W=>qes m W)
 have hne:=qhq m.id
 have HM:Hid (mayB m=(okId m.id && (qbn m.t && carB m))):=by show _=_;unfold mayB;simp [hk]
 unfold msgV at HC HD ⊢
 rw [hk] at HC HD ⊢
 generalize okId m.id=fI at hne HM
 generalize qbn m.t=fT at HT HM
 generalize carB m=fC at HC HM
 clear hk hm
 cases fI <;> cases fT <;> cases fC
 all_goals
  go_enter Tryz.func167,Tryz.ntmps167
  go_wp2_with (first | (go_at_call 179;refine (HI.out _).mono ?_;rintro e w' ⟨rfl,rfl⟩) | (go_at_call 180;refine (HT.out _).mono ?_;rintro e w' ⟨rfl,rfl⟩) | (go_at_call 182;refine (HL.out _).mono ?_;rintro e w' ⟨rfl,rfl⟩) | (go_at_call 181;refine (HC.out _).mono ?_;rintro e w1 ⟨rfl,hb1⟩;have HB1:=hI (qac (bel1 w _) hb1);clear hb1) | (go_at_call 183;refine (HD.out _).mono ?_;rintro e w1 ⟨rfl,hb1⟩;have HB1:=hI (qac (bel1 w _) hb1);clear hb1))
  go_ret
  first
  | exact ⟨qah (by rw [HM.out];rfl),HB1.out⟩
  | exact ⟨qah (by rw [HM.out];rfl),bel1 w _⟩
set_option maxRecDepth 100000 in
set_option maxHeartbeats 2000000 in
theorem may6_any (m:PM) (w:World) (hm:RdM w m) (hk:m.k=6) :
 Calls Tryz.prog 167 #[msgV m] w fun e w'=>e=.returned (.bool (mayB m))∧Below w.heap.size w w':=by
 have HI:=hI (fun W=>qca m.id W)
 have HT:=hI (fun W=>qef m.t W)
 have HL:=hI (fun W=>qcw m.bal W)
 have HC:=hI (fun W=>qci m W hm.sp)
 have HD:=hI (fun W=>qes m W)
 have hne:=qhq m.id
 have HM:Hid (mayB m=(okId m.id && (qbn m.bal && carB m))):=by show _=_;unfold mayB;simp [hk]
 unfold msgV at HC HD ⊢
 rw [hk] at HC HD ⊢
 generalize okId m.id=fI at hne HM
 generalize qbn m.bal=fL at HL HM
 generalize carB m=fC at HC HM
 clear hk hm
 cases fI <;> cases fL <;> cases fC
 all_goals
  go_enter Tryz.func167,Tryz.ntmps167
  go_wp2_with (first | (go_at_call 179;refine (HI.out _).mono ?_;rintro e w' ⟨rfl,rfl⟩) | (go_at_call 180;refine (HT.out _).mono ?_;rintro e w' ⟨rfl,rfl⟩) | (go_at_call 182;refine (HL.out _).mono ?_;rintro e w' ⟨rfl,rfl⟩) | (go_at_call 181;refine (HC.out _).mono ?_;rintro e w1 ⟨rfl,hb1⟩;have HB1:=hI (qac (bel1 w _) hb1);clear hb1) | (go_at_call 183;refine (HD.out _).mono ?_;rintro e w1 ⟨rfl,hb1⟩;have HB1:=hI (qac (bel1 w _) hb1);clear hb1))
  go_ret
  first
  | exact ⟨qah (by rw [HM.out];rfl),HB1.out⟩
  | exact ⟨qah (by rw [HM.out];rfl),bel1 w _⟩
set_option maxRecDepth 100000 in
set_option maxHeartbeats 2000000 in
theorem may7_any (m:PM) (w:World) (hm:RdM w m) (hk:m.k=7) :
 Calls Tryz.prog 167 #[msgV m] w fun e w'=>e=.returned (.bool (mayB m))∧Below w.heap.size w w':=by
 have HI:=hI (fun W=>qca m.id W)
 have HT:=hI (fun W=>qef m.t W)
 have HL:=hI (fun W=>qcw m.bal W)
 have HC:=hI (fun W=>qci m W hm.sp)
 have HD:=hI (fun W=>qes m W)
 have hne:=qhq m.id
 have HM:Hid (mayB m=(okId m.id && (qbn m.bal && tolB m))):=by show _=_;unfold mayB;simp [hk]
 unfold msgV at HC HD ⊢
 rw [hk] at HC HD ⊢
 generalize okId m.id=fI at hne HM
 generalize qbn m.bal=fL at HL HM
 generalize tolB m=fD at HD HM
 clear hk hm
 cases fI <;> cases fL <;> cases fD
 all_goals
  go_enter Tryz.func167,Tryz.ntmps167
  go_wp2_with (first | (go_at_call 179;refine (HI.out _).mono ?_;rintro e w' ⟨rfl,rfl⟩) | (go_at_call 180;refine (HT.out _).mono ?_;rintro e w' ⟨rfl,rfl⟩) | (go_at_call 182;refine (HL.out _).mono ?_;rintro e w' ⟨rfl,rfl⟩) | (go_at_call 181;refine (HC.out _).mono ?_;rintro e w1 ⟨rfl,hb1⟩;have HB1:=hI (qac (bel1 w _) hb1);clear hb1) | (go_at_call 183;refine (HD.out _).mono ?_;rintro e w1 ⟨rfl,hb1⟩;have HB1:=hI (qac (bel1 w _) hb1);clear hb1))
  go_ret
  first
  | exact ⟨qah (by rw [HM.out];rfl),HB1.out⟩
  | exact ⟨qah (by rw [HM.out];rfl),bel1 w _⟩
set_option maxRecDepth 100000 in
set_option maxHeartbeats 2000000 in
theorem may8_any (m:PM) (w:World) (hm:RdM w m) (hk:m.k=8) :
 Calls Tryz.prog 167 #[msgV m] w fun e w'=>e=.returned (.bool (mayB m))∧Below w.heap.size w w':=by
 have HI:=hI (fun W=>qca m.id W)
 have HT:=hI (fun W=>qef m.t W)
 have HL:=hI (fun W=>qcw m.bal W)
 have HC:=hI (fun W=>qci m W hm.sp)
 have HD:=hI (fun W=>qes m W)
 have hne:=qhq m.id
 have HM:Hid (mayB m=(okId m.id && (qbn m.bal))):=by show _=_;unfold mayB;simp [hk]
 unfold msgV at HC HD ⊢
 rw [hk] at HC HD ⊢
 generalize okId m.id=fI at hne HM
 generalize qbn m.bal=fL at HL HM
 clear hk hm
 cases fI <;> cases fL
 all_goals
  go_enter Tryz.func167,Tryz.ntmps167
  go_wp2_with (first | (go_at_call 179;refine (HI.out _).mono ?_;rintro e w' ⟨rfl,rfl⟩) | (go_at_call 180;refine (HT.out _).mono ?_;rintro e w' ⟨rfl,rfl⟩) | (go_at_call 182;refine (HL.out _).mono ?_;rintro e w' ⟨rfl,rfl⟩) | (go_at_call 181;refine (HC.out _).mono ?_;rintro e w1 ⟨rfl,hb1⟩;have HB1:=hI (qac (bel1 w _) hb1);clear hb1) | (go_at_call 183;refine (HD.out _).mono ?_;rintro e w1 ⟨rfl,hb1⟩;have HB1:=hI (qac (bel1 w _) hb1);clear hb1))
  go_ret
  first
  | exact ⟨qah (by rw [HM.out];rfl),HB1.out⟩
  | exact ⟨qah (by rw [HM.out];rfl),bel1 w _⟩
set_option maxRecDepth 100000 in
set_option maxHeartbeats 2000000 in
theorem may9_any (m:PM) (w:World) (hm:RdM w m) (hk:m.k=9) :
 Calls Tryz.prog 167 #[msgV m] w fun e w'=>e=.returned (.bool (mayB m))∧Below w.heap.size w w':=by
 have HI:=hI (fun W=>qca m.id W)
 have HT:=hI (fun W=>qef m.t W)
 have HL:=hI (fun W=>qcw m.bal W)
 have HC:=hI (fun W=>qci m W hm.sp)
 have HD:=hI (fun W=>qes m W)
 have hne:=qhq m.id
 have HM:Hid (mayB m=(okId m.id && (carB m))):=by show _=_;unfold mayB;simp [hk]
 unfold msgV at HC HD ⊢
 rw [hk] at HC HD ⊢
 generalize okId m.id=fI at hne HM
 generalize carB m=fC at HC HM
 clear hk hm
 cases fI <;> cases fC
 all_goals
  go_enter Tryz.func167,Tryz.ntmps167
  go_wp2_with (first | (go_at_call 179;refine (HI.out _).mono ?_;rintro e w' ⟨rfl,rfl⟩) | (go_at_call 180;refine (HT.out _).mono ?_;rintro e w' ⟨rfl,rfl⟩) | (go_at_call 182;refine (HL.out _).mono ?_;rintro e w' ⟨rfl,rfl⟩) | (go_at_call 181;refine (HC.out _).mono ?_;rintro e w1 ⟨rfl,hb1⟩;have HB1:=hI (qac (bel1 w _) hb1);clear hb1) | (go_at_call 183;refine (HD.out _).mono ?_;rintro e w1 ⟨rfl,hb1⟩;have HB1:=hI (qac (bel1 w _) hb1);clear hb1))
  go_ret
  first
  | exact ⟨qah (by rw [HM.out];rfl),HB1.out⟩
  | exact ⟨qah (by rw [HM.out];rfl),bel1 w _⟩
set_option maxRecDepth 100000 in
set_option maxHeartbeats 2000000 in
theorem may10_any (m:PM) (w:World) (hm:RdM w m) (hk:m.k=10) :
 Calls Tryz.prog 167 #[msgV m] w fun e w'=>e=.returned (.bool (mayB m))∧Below w.heap.size w w':=by
 have HP:=hI (fun W (h:Below w.heap.size w W)=>qsj m W (hm.next h))
 have HM:Hid (mayB m=proB m):=by show _=_;unfold mayB;simp [hk]
 unfold msgV at HP ⊢
 rw [hk] at HP ⊢
 clear hk hm
 go_enter Tryz.func167,Tryz.ntmps167
 go_wp2_with (go_at_call 178;refine (HP.out _ (bel1 w _)).mono ?_;rintro e w1 ⟨rfl,hb1⟩;have HB1:=hI (qac (bel1 w _) hb1);clear hb1)
 go_ret
 exact ⟨qah HM.out.symm,HB1.out⟩
theorem mayM_any (m:PM) (w:World) (hm:RdM w m) (h1:1≤m.k) (h2:m.k≤10) :
 Calls Tryz.prog 167 #[msgV m] w fun e w'=>e=.returned (.bool (mayB m))∧Below w.heap.size w w':=by
 have:m.k=1∨m.k=2∨m.k=3∨m.k=4∨m.k=5∨m.k=6∨m.k=7∨m.k=8∨m.k=9∨m.k=10:=by omega
 rcases this with h | h | h | h | h | h | h | h | h | h
 ·exact may1_any m w hm h
 ·exact may2_any m w hm h
 ·exact may3_any m w hm h
 ·exact may4_any m w hm h
 ·exact may5_any m w hm h
 ·exact may6_any m w hm h
 ·exact may7_any m w hm h
 ·exact may8_any m w hm h
 ·exact may9_any m w hm h
 ·exact may10_any m w hm h
end Go.Proofs.YtjkecckndfcbjaaGreatDoor
namespace Go.Proofs.YtjkecckndfcbjaaGreatDoor
open Go.RowKit Go.Sort Go.Lib
def qbv (m:PM):PM :=
 { k:=m.k,fr:=m.fr,id:=if m.k=10 then 0 else m.id,t:=if m.k=1∨m.k=2∨m.k=3∨m.k=5∨m.k=7 then m.t else 0,bal:=if m.k=3∨m.k=4∨m.k=6∨m.k=7∨m.k=8 then m.bal else 0,abal:=if m.k=7 then m.abal else 0,ph:=if m.k=7 then m.ph else 0,
   q:=if m.k=1∨m.k=3∨m.k=5∨m.k=6∨m.k=9 then m.q else 0,pay:=if m.k=1∨m.k=3∨m.k=5∨m.k=6∨m.k=9 then m.pay else ⟨#[]⟩,lo:=if m.k=10 then m.lo else 0,hi:=if m.k=10 then m.hi else 0,
   aA:=if m.k=10 then m.aA else none,aC:=if m.k=10 then m.aC else 0,ats:=if m.k=10 then m.ats else #[],mA:=if m.k=10 then m.mA else none,mC:=if m.k=10 then m.mC else 0,mks:=if m.k=10 then m.mks else #[],dn:=if m.k=10 then m.dn else 0 }
set_option maxRecDepth 100000 in
set_option maxHeartbeats 4000000 in
theorem bare1_any (m:PM) (w:World) (hk:m.k=1) :
 Calls Tryz.prog 166 #[msgV m] w fun e w'=>e=.returned (msgV (qbv m))∧Below w.heap.size w w':=by
 have HV:Hid (msgV (qbv m)=.agg #[.int .i64 1,.int .i64 m.fr,.int .i64 m.id,.int .i64 m.t,.int .i64 0,.int .i64 0,.int .i64 0,.int .i64 m.q,.string m.pay,.int .i64 0,.int .i64 0,.slice none 0 0,.slice none 0 0,.int .i64 0]):=by show _=_;unfold msgV qbv;simp [hk]
 rw [HV.out]
 unfold msgV
 rw [hk]
 clear hk HV
 go_enter Tryz.func166,Tryz.ntmps166
 go_wp2
 go_region
 all_goals go_wp2
 all_goals
  refine bodyPost_ret (v:=.agg #[.int .i64 1,.int .i64 m.fr,.int .i64 m.id,.int .i64 m.t,.int .i64 0,.int .i64 0,.int .i64 0,.int .i64 m.q,.string m.pay,.int .i64 0,.int .i64 0,.slice none 0 0,.slice none 0 0,.int .i64 0]) (by simp [results,Tryz.results166,go_sem]) rfl ⟨rfl,?_⟩
  first
  | exact qab (qab (bel1 w _) _) _
  | exact (qab (qab (bel1 w _) _) _).drew
set_option maxRecDepth 100000 in
set_option maxHeartbeats 4000000 in
theorem bare2_any (m:PM) (w:World) (hk:m.k=2) :
 Calls Tryz.prog 166 #[msgV m] w fun e w'=>e=.returned (msgV (qbv m))∧Below w.heap.size w w':=by
 have HV:Hid (msgV (qbv m)=.agg #[.int .i64 2,.int .i64 m.fr,.int .i64 m.id,.int .i64 m.t,.int .i64 0,.int .i64 0,.int .i64 0,.int .i64 0,.string ⟨#[]⟩,.int .i64 0,.int .i64 0,.slice none 0 0,.slice none 0 0,.int .i64 0]):=by show _=_;unfold msgV qbv;simp [hk]
 rw [HV.out]
 unfold msgV
 rw [hk]
 clear hk HV
 go_enter Tryz.func166,Tryz.ntmps166
 go_wp2
 all_goals
  refine bodyPost_ret (v:=.agg #[.int .i64 2,.int .i64 m.fr,.int .i64 m.id,.int .i64 m.t,.int .i64 0,.int .i64 0,.int .i64 0,.int .i64 0,.string ⟨#[]⟩,.int .i64 0,.int .i64 0,.slice none 0 0,.slice none 0 0,.int .i64 0]) (by simp [results,Tryz.results166,go_sem]) rfl ⟨rfl,?_⟩
  first
  | exact qab (qab (bel1 w _) _) _
  | exact (qab (qab (bel1 w _) _) _).drew
set_option maxRecDepth 100000 in
set_option maxHeartbeats 4000000 in
theorem bare3_any (m:PM) (w:World) (hk:m.k=3) :
 Calls Tryz.prog 166 #[msgV m] w fun e w'=>e=.returned (msgV (qbv m))∧Below w.heap.size w w':=by
 have HV:Hid (msgV (qbv m)=.agg #[.int .i64 3,.int .i64 m.fr,.int .i64 m.id,.int .i64 m.t,.int .i64 m.bal,.int .i64 0,.int .i64 0,.int .i64 m.q,.string m.pay,.int .i64 0,.int .i64 0,.slice none 0 0,.slice none 0 0,.int .i64 0]):=by show _=_;unfold msgV qbv;simp [hk]
 rw [HV.out]
 unfold msgV
 rw [hk]
 clear hk HV
 go_enter Tryz.func166,Tryz.ntmps166
 go_wp2
 go_region
 all_goals go_wp2
 all_goals
  refine bodyPost_ret (v:=.agg #[.int .i64 3,.int .i64 m.fr,.int .i64 m.id,.int .i64 m.t,.int .i64 m.bal,.int .i64 0,.int .i64 0,.int .i64 m.q,.string m.pay,.int .i64 0,.int .i64 0,.slice none 0 0,.slice none 0 0,.int .i64 0]) (by simp [results,Tryz.results166,go_sem]) rfl ⟨rfl,?_⟩
  first
  | exact qab (qab (bel1 w _) _) _
  | exact (qab (qab (bel1 w _) _) _).drew
set_option maxRecDepth 100000 in
set_option maxHeartbeats 4000000 in
theorem bare4_any (m:PM) (w:World) (hk:m.k=4) :
 Calls Tryz.prog 166 #[msgV m] w fun e w'=>e=.returned (msgV (qbv m))∧Below w.heap.size w w':=by
 have HV:Hid (msgV (qbv m)=.agg #[.int .i64 4,.int .i64 m.fr,.int .i64 m.id,.int .i64 0,.int .i64 m.bal,.int .i64 0,.int .i64 0,.int .i64 0,.string ⟨#[]⟩,.int .i64 0,.int .i64 0,.slice none 0 0,.slice none 0 0,.int .i64 0]):=by show _=_;unfold msgV qbv;simp [hk]
 rw [HV.out]
 unfold msgV
 rw [hk]
 clear hk HV
 go_enter Tryz.func166,Tryz.ntmps166
 go_wp2
 all_goals
  refine bodyPost_ret (v:=.agg #[.int .i64 4,.int .i64 m.fr,.int .i64 m.id,.int .i64 0,.int .i64 m.bal,.int .i64 0,.int .i64 0,.int .i64 0,.string ⟨#[]⟩,.int .i64 0,.int .i64 0,.slice none 0 0,.slice none 0 0,.int .i64 0]) (by simp [results,Tryz.results166,go_sem]) rfl ⟨rfl,?_⟩
  first
  | exact qab (qab (bel1 w _) _) _
  | exact (qab (qab (bel1 w _) _) _).drew
set_option maxRecDepth 100000 in
set_option maxHeartbeats 4000000 in
theorem bare5_any (m:PM) (w:World) (hk:m.k=5) :
 Calls Tryz.prog 166 #[msgV m] w fun e w'=>e=.returned (msgV (qbv m))∧Below w.heap.size w w':=by
 have HV:Hid (msgV (qbv m)=.agg #[.int .i64 5,.int .i64 m.fr,.int .i64 m.id,.int .i64 m.t,.int .i64 0,.int .i64 0,.int .i64 0,.int .i64 m.q,.string m.pay,.int .i64 0,.int .i64 0,.slice none 0 0,.slice none 0 0,.int .i64 0]):=by show _=_;unfold msgV qbv;simp [hk]
 rw [HV.out]
 unfold msgV
 rw [hk]
 clear hk HV
 go_enter Tryz.func166,Tryz.ntmps166
 go_wp2
 go_region
 all_goals go_wp2
 all_goals
  refine bodyPost_ret (v:=.agg #[.int .i64 5,.int .i64 m.fr,.int .i64 m.id,.int .i64 m.t,.int .i64 0,.int .i64 0,.int .i64 0,.int .i64 m.q,.string m.pay,.int .i64 0,.int .i64 0,.slice none 0 0,.slice none 0 0,.int .i64 0]) (by simp [results,Tryz.results166,go_sem]) rfl ⟨rfl,?_⟩
  first
  | exact qab (qab (bel1 w _) _) _
  | exact (qab (qab (bel1 w _) _) _).drew
set_option maxRecDepth 100000 in
set_option maxHeartbeats 4000000 in
theorem bare6_any (m:PM) (w:World) (hk:m.k=6) :
 Calls Tryz.prog 166 #[msgV m] w fun e w'=>e=.returned (msgV (qbv m))∧Below w.heap.size w w':=by
 have HV:Hid (msgV (qbv m)=.agg #[.int .i64 6,.int .i64 m.fr,.int .i64 m.id,.int .i64 0,.int .i64 m.bal,.int .i64 0,.int .i64 0,.int .i64 m.q,.string m.pay,.int .i64 0,.int .i64 0,.slice none 0 0,.slice none 0 0,.int .i64 0]):=by show _=_;unfold msgV qbv;simp [hk]
 rw [HV.out]
 unfold msgV
 rw [hk]
 clear hk HV
 go_enter Tryz.func166,Tryz.ntmps166
 go_wp2
 go_region
 all_goals go_wp2
 all_goals
  refine bodyPost_ret (v:=.agg #[.int .i64 6,.int .i64 m.fr,.int .i64 m.id,.int .i64 0,.int .i64 m.bal,.int .i64 0,.int .i64 0,.int .i64 m.q,.string m.pay,.int .i64 0,.int .i64 0,.slice none 0 0,.slice none 0 0,.int .i64 0]) (by simp [results,Tryz.results166,go_sem]) rfl ⟨rfl,?_⟩
  first
  | exact qab (qab (bel1 w _) _) _
  | exact (qab (qab (bel1 w _) _) _).drew
set_option maxRecDepth 100000 in
set_option maxHeartbeats 4000000 in
theorem bare7_any (m:PM) (w:World) (hk:m.k=7) :
 Calls Tryz.prog 166 #[msgV m] w fun e w'=>e=.returned (msgV (qbv m))∧Below w.heap.size w w':=by
 have HV:Hid (msgV (qbv m)=.agg #[.int .i64 7,.int .i64 m.fr,.int .i64 m.id,.int .i64 m.t,.int .i64 m.bal,.int .i64 m.abal,.int .i64 m.ph,.int .i64 0,.string ⟨#[]⟩,.int .i64 0,.int .i64 0,.slice none 0 0,.slice none 0 0,.int .i64 0]):=by show _=_;unfold msgV qbv;simp [hk]
 rw [HV.out]
 unfold msgV
 rw [hk]
 clear hk HV
 go_enter Tryz.func166,Tryz.ntmps166
 go_wp2
 go_region
 all_goals go_wp2
 all_goals
  refine bodyPost_ret (v:=.agg #[.int .i64 7,.int .i64 m.fr,.int .i64 m.id,.int .i64 m.t,.int .i64 m.bal,.int .i64 m.abal,.int .i64 m.ph,.int .i64 0,.string ⟨#[]⟩,.int .i64 0,.int .i64 0,.slice none 0 0,.slice none 0 0,.int .i64 0]) (by simp [results,Tryz.results166,go_sem]) rfl ⟨rfl,?_⟩
  first
  | exact qab (qab (bel1 w _) _) _
  | exact (qab (qab (bel1 w _) _) _).drew
set_option maxRecDepth 100000 in
set_option maxHeartbeats 4000000 in
theorem bare8_any (m:PM) (w:World) (hk:m.k=8) :
 Calls Tryz.prog 166 #[msgV m] w fun e w'=>e=.returned (msgV (qbv m))∧Below w.heap.size w w':=by
 have HV:Hid (msgV (qbv m)=.agg #[.int .i64 8,.int .i64 m.fr,.int .i64 m.id,.int .i64 0,.int .i64 m.bal,.int .i64 0,.int .i64 0,.int .i64 0,.string ⟨#[]⟩,.int .i64 0,.int .i64 0,.slice none 0 0,.slice none 0 0,.int .i64 0]):=by show _=_;unfold msgV qbv;simp [hk]
 rw [HV.out]
 unfold msgV
 rw [hk]
 clear hk HV
 go_enter Tryz.func166,Tryz.ntmps166
 go_wp2
 all_goals
  refine bodyPost_ret (v:=.agg #[.int .i64 8,.int .i64 m.fr,.int .i64 m.id,.int .i64 0,.int .i64 m.bal,.int .i64 0,.int .i64 0,.int .i64 0,.string ⟨#[]⟩,.int .i64 0,.int .i64 0,.slice none 0 0,.slice none 0 0,.int .i64 0]) (by simp [results,Tryz.results166,go_sem]) rfl ⟨rfl,?_⟩
  first
  | exact qab (qab (bel1 w _) _) _
  | exact (qab (qab (bel1 w _) _) _).drew
set_option maxRecDepth 100000 in
set_option maxHeartbeats 4000000 in
theorem bare9_any (m:PM) (w:World) (hk:m.k=9) :
 Calls Tryz.prog 166 #[msgV m] w fun e w'=>e=.returned (msgV (qbv m))∧Below w.heap.size w w':=by
 have HV:Hid (msgV (qbv m)=.agg #[.int .i64 9,.int .i64 m.fr,.int .i64 m.id,.int .i64 0,.int .i64 0,.int .i64 0,.int .i64 0,.int .i64 m.q,.string m.pay,.int .i64 0,.int .i64 0,.slice none 0 0,.slice none 0 0,.int .i64 0]):=by show _=_;unfold msgV qbv;simp [hk]
 rw [HV.out]
 unfold msgV
 rw [hk]
 clear hk HV
 go_enter Tryz.func166,Tryz.ntmps166
 go_wp2
 go_region
 all_goals go_wp2
 all_goals
  refine bodyPost_ret (v:=.agg #[.int .i64 9,.int .i64 m.fr,.int .i64 m.id,.int .i64 0,.int .i64 0,.int .i64 0,.int .i64 0,.int .i64 m.q,.string m.pay,.int .i64 0,.int .i64 0,.slice none 0 0,.slice none 0 0,.int .i64 0]) (by simp [results,Tryz.results166,go_sem]) rfl ⟨rfl,?_⟩
  first
  | exact qab (qab (bel1 w _) _) _
  | exact (qab (qab (bel1 w _) _) _).drew
set_option maxRecDepth 100000 in
set_option maxHeartbeats 4000000 in
theorem qye (m:PM) (w:World) (hk:m.k=10) :
 Calls Tryz.prog 166 #[msgV m] w fun e w'=>e=.returned (msgV (qbv m))∧Below w.heap.size w w':=by
 have HV:Hid (msgV (qbv m)=.agg #[.int .i64 10,.int .i64 m.fr,.int .i64 0,.int .i64 0,.int .i64 0,.int .i64 0,.int .i64 0,.int .i64 0,.string ⟨#[]⟩,.int .i64 m.lo,.int .i64 m.hi,.slice m.aA m.ats.size m.aC,.slice m.mA m.mks.size m.mC,.int .i64 m.dn]):=by show _=_;unfold msgV qbv;simp [hk]
 rw [HV.out]
 unfold msgV
 rw [hk]
 clear hk HV
 go_enter Tryz.func166,Tryz.ntmps166
 go_wp2
 go_region
 all_goals go_wp2
 all_goals
  refine bodyPost_ret (v:=.agg #[.int .i64 10,.int .i64 m.fr,.int .i64 0,.int .i64 0,.int .i64 0,.int .i64 0,.int .i64 0,.int .i64 0,.string ⟨#[]⟩,.int .i64 m.lo,.int .i64 m.hi,.slice m.aA m.ats.size m.aC,.slice m.mA m.mks.size m.mC,.int .i64 m.dn]) (by simp [results,Tryz.results166,go_sem]) rfl ⟨rfl,?_⟩
  first
  | exact qab (qab (bel1 w _) _) _
  | exact (qab (qab (bel1 w _) _) _).drew
theorem bare_any (m:PM) (w:World) (h1:1≤m.k) (h2:m.k≤10) :
 Calls Tryz.prog 166 #[msgV m] w fun e w'=>e=.returned (msgV (qbv m))∧Below w.heap.size w w':=by
 have:m.k=1∨m.k=2∨m.k=3∨m.k=4∨m.k=5∨m.k=6∨m.k=7∨m.k=8∨m.k=9∨m.k=10:=by omega
 rcases this with h | h | h | h | h | h | h | h | h | h
 ·exact bare1_any m w h
 ·exact bare2_any m w h
 ·exact bare3_any m w h
 ·exact bare4_any m w h
 ·exact bare5_any m w h
 ·exact bare6_any m w h
 ·exact bare7_any m w h
 ·exact bare8_any m w h
 ·exact bare9_any m w h
 ·exact qye m w h
end Go.Proofs.YtjkecckndfcbjaaGreatDoor
