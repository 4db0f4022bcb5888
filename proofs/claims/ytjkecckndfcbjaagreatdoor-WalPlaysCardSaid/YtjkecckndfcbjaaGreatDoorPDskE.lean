/- Texts that the law leans on. -/
import Derived.Test.YtjkecckndfcbjaaGreatDoorPBase
import Derived.Test.YtjkecckndfcbjaaGreatDoorPBoxG
import Derived.Test.YtjkecckndfcbjaaGreatDoorPAnyE
namespace Go.Proofs.YtjkecckndfcbjaaGreatDoor
open Go.RowKit
set_option maxRecDepth 100000
structure RD where
 a:ByteArray
 b:ByteArray
 c:ByteArray
 e:ByteArray
 h:Bool
 k:Bool
 room:Nat
 ops:Nat
 arm:Nat
 dead:Bool
def qbh (r:RD):List Value:=[.string r.a,.string r.b,.string r.c,.string r.e,.bool r.h,.bool r.k,.int .i64 (r.room:Int),.int .i64 (r.ops:Int),.int .i64 (r.arm:Int),.bool r.dead]
def rdV (r:RD):Value:=.agg (qbh r).toArray
def RD.goes (r:RD):RD:=if r.arm=1 then { r with ops:=r.ops + 1,arm:=0,dead:=true } else { r with ops:=r.ops + 1,arm:=r.arm - 1 }
def RD.off (r:RD):Bool:=r.arm == 1
def RD.up (r:RD) (f:Int):Nat:=if r.dead then 20 else if f < 0∨2≤f then 2 else 0
def RD.offC (r:RD):Nat:=if r.off then 20 else 0
def RD.app (r:RD) (f:Nat) (s:ByteArray):RD:=if f=0 then { r.goes with c:=r.c ++ s } else { r.goes with e:=r.e ++ s }
def RD.sync (r:RD) (f:Nat):RD:=if r.off then r.goes else if f=0 then { r.goes with a:=r.a ++ r.c,c:=⟨#[]⟩ } else { r.goes with b:=r.b ++ r.e,e:=⟨#[]⟩ }
def RD.reset (r:RD) (f:Nat):RD:=if r.off then (if f=0 then { r.goes with h:=true } else { r.goes with k:=true }) else if f=0 then { r.goes with a:=⟨#[]⟩,c:=⟨#[]⟩,h:=false } else { r.goes with b:=⟨#[]⟩,e:=⟨#[]⟩,k:=false }
def RD.tot (r:RD):Nat:=r.a.size + r.b.size + r.c.size + r.e.size
def qnp (r:RD) (f:Int) (s:ByteArray):RD×Nat:=if r.up f≠0 then (r,r.up f) else if r.room < r.tot + s.size then (r,22) else (r.app f.toNat s,r.offC)
def qkp (r:RD) (f:Int):RD×Nat:=if r.up f≠0 then (r,r.up f) else (r.sync f.toNat,r.offC)
def qhd (r:RD) (f:Int):RD×Nat:=if r.up f≠0 then (r,r.up f) else (r.reset f.toNat,r.offC)
def qgf (r:RD) (f:Int):ByteArray×Nat:=if r.up f≠0 then (⟨#[]⟩,r.up f) else (if f=0 then r.a ++ r.c else r.b ++ r.e,0)
def rArmQ (r:RD) (k:Int):RD×Nat:=if r.dead then (r,20) else if k < 1∨1000000 < k then (r,2) else ({ r with arm:=k.toNat },0)
structure RD.ok (r:RD):Prop where
 fit:r.tot≤r.room
 room:r.room≤1000000
 ops:r.ops≤1000000000
 arm:r.arm≤1000000
theorem qjp {r:RD} {f:Int} (h:r.up f=0):r.dead=false∧∃ k:Nat,(k=0∨k=1)∧f=(k:Int):=by
 unfold RD.up at h
 split at h
 ·cases h
 ·rename_i h1
  split at h
  ·cases h
  ·rename_i h2
   exact ⟨by simpa using h1,f.toNat,by omega,by omega⟩
theorem qse (r:RD):∃ x y z,r.goes=⟨r.a,r.b,r.c,r.e,r.h,r.k,r.room,x,y,z⟩:=by
 unfold RD.goes
 split
 ·exact ⟨_,_,_,rfl⟩
 ·exact ⟨_,_,_,rfl⟩
set_option maxHeartbeats 1000000 in
theorem qkq (r:RD) (w:World) (ho:r.ops≤1000000000) (ha:r.arm≤1000000) :
 Calls Tryz.prog 113 #[rdV r] w fun e w'=>e=.returned (.tuple #[rdV r.goes,.bool r.off])∧∃ o1 o2,w'=(w.alloc o1).alloc o2:=by
 obtain ⟨a,b,c,e,h,k,room,ops,arm,dead⟩:=r
 dsimp only at ho ha
 by_cases hoff:arm=1
 ·subst hoff
  have H1:Hid (RD.goes ⟨a,b,c,e,h,k,room,ops,1,dead⟩=⟨a,b,c,e,h,k,room,ops + 1,0,true⟩):=rfl
  have H2:Hid (RD.off ⟨a,b,c,e,h,k,room,ops,1,dead⟩=true):=rfl
  rw [H1.out,H2.out]
  unfold rdV qbh
  dsimp only
  go_enter Tryz.func113,Tryz.ntmps113
  go_wp2
  refine bodyPost_ret (v:=.tuple #[.agg #[.string a,.string b,.string c,.string e,.bool h,.bool k,.int .i64 (room:Int),.int .i64 ((ops:Int) + 1),.int .i64 0,.bool true],.bool true]) (by simp [results,Tryz.results113,go_sem]) rfl ⟨rfl,?_⟩
  exact ⟨_,_,rfl⟩
 ·have H1:Hid (RD.goes ⟨a,b,c,e,h,k,room,ops,arm,dead⟩=⟨a,b,c,e,h,k,room,ops + 1,arm - 1,dead⟩):=by show _=_;unfold RD.goes;rw [if_neg hoff]
  have H2:Hid (RD.off ⟨a,b,c,e,h,k,room,ops,arm,dead⟩=false):=by show _=_;unfold RD.off;simpa using hoff
  rw [H1.out,H2.out]
  have hoff':((arm:Int) == 1)=false:=by simp;omega
  unfold rdV qbh
  dsimp only
  by_cases h0:arm=0
  ·subst h0
   go_enter Tryz.func113,Tryz.ntmps113
   go_wp2
   refine bodyPost_ret (v:=.tuple #[.agg #[.string a,.string b,.string c,.string e,.bool h,.bool k,.int .i64 (room:Int),.int .i64 ((ops:Int) + 1),.int .i64 0,.bool dead],.bool false]) (by simp [results,Tryz.results113,go_sem]) rfl ⟨rfl,?_⟩
   exact ⟨_,_,rfl⟩
  ·have hp:0 < arm:=by omega
   obtain ⟨m,rfl⟩:∃ m,arm=m + 1:=⟨arm - 1,by omega⟩
   have hm:((m + 1:Nat):Int) - 1=(m:Int):=by omega
   have hm2:(m + 1:Nat) - 1=m:=rfl
   rw [hm2]
   obtain ⟨q,hq⟩:∃ q:Nat,m + 1=q:=⟨_,rfl⟩
   rw [hq] at hm hoff' ha hp ⊢
   clear hq h0 hoff H1 H2 hm2
   go_enter Tryz.func113,Tryz.ntmps113
   go_wp2
   refine bodyPost_ret (v:=.tuple #[.agg #[.string a,.string b,.string c,.string e,.bool h,.bool k,.int .i64 (room:Int),.int .i64 ((ops:Int) + 1),.int .i64 (m:Int),.bool dead],.bool false]) (by simp [results,Tryz.results113,go_sem]) rfl ⟨rfl,?_⟩
   exact ⟨_,_,rfl⟩
theorem qdj (r:RD) (f:Int) (w:World) :
 Calls Tryz.prog 69 #[rdV r,.int .i64 f] w fun e w'=>e=.returned (.int .i64 (r.up f:Int))∧∃ o,w'=w.alloc o:=by
 have HU:Hid (r.up f=if r.dead then 20 else if f < 0∨2≤f then 2 else 0):=rfl
 generalize r.up f=u at HU ⊢
 obtain ⟨a,b,c,e,h,k,room,ops,arm,dead⟩:=r
 unfold rdV qbh
 dsimp only at HU ⊢
 cases dead
 ·simp only [Bool.false_eq_true,if_false] at HU
  by_cases h0:f=0
  ·subst h0
   have HX:Hid (u=0):=HU.out
   go_enter Tryz.func69,Tryz.ntmps69
   go_wp2
   go_ret
   rw [HX.out]
   exact ⟨rfl,_,rfl⟩
  ·by_cases h1:f=1
   ·subst h1
    have HX:Hid (u=0):=HU.out
    go_enter Tryz.func69,Tryz.ntmps69
    go_wp2
    go_ret
    rw [HX.out]
    exact ⟨rfl,_,rfl⟩
   ·rw [if_pos (by omega)] at HU
    have g0:(f != 0)=true:=by simpa using h0
    have g1:(f != 1)=true:=by simpa using h1
    go_enter Tryz.func69,Tryz.ntmps69
    go_wp2
    go_ret
    rw [HU.out]
    exact ⟨rfl,_,rfl⟩
 ·simp only [if_true] at HU
  go_enter Tryz.func69,Tryz.ntmps69
  go_wp2
  go_ret
  rw [HU.out]
  exact ⟨rfl,_,rfl⟩
def qet (x:RD×Nat) (w:World) (e:Ending) (w':World):Prop:=e=.returned (.tuple #[rdV x.1,.int .i64 (x.2:Int)])∧Below w.heap.size w w'
end Go.Proofs.YtjkecckndfcbjaaGreatDoor
namespace Go.Proofs.YtjkecckndfcbjaaGreatDoor
open Go.RowKit
set_option maxRecDepth 100000
set_option maxHeartbeats 2000000 in
theorem qhe (r:RD) (f:Int) (s:ByteArray) (hs:s.size≤2000000000) (w:World) (hok:r.ok) :
 Calls Tryz.prog 75 #[rdV r,.int .i64 f,.string s] w (qet (qnp r f s) w):=by
 by_cases hu:r.up f=0
 ·obtain ⟨hdd,k,hk,hf⟩:=qjp hu
  subst hf
  have HW:=hI (fun W=>qdj r (k:Int) W)
  rw [hu] at HW
  by_cases hfull:r.room < r.tot + s.size
  ·have HQ:Hid (qnp r (k:Int) s=(r,22)):=by show _=_;unfold qnp;rw [if_neg (by omega),if_pos hfull]
   rw [HQ.out]
   have hfull':(r.room:Int) < (r.a.size:Int) + (r.b.size:Int) + (r.c.size:Int) + (r.e.size:Int) + (s.size:Int):=by have:r.tot=r.a.size + r.b.size + r.c.size + r.e.size:=rfl;omega
   obtain ⟨z1,z2,-,-⟩:=hok
   unfold RD.tot at z1
   clear HQ hu hfull hdd
   obtain ⟨a,b,c,e,h,k2,room,ops,arm,dead⟩:=r
   unfold qet rdV qbh at *
   dsimp only at *
   go_enter Tryz.func75,Tryz.ntmps75
   go_wp2_with (go_at_call 69;refine (HW.out _).mono ?_;rintro _ _ ⟨rfl,o1,rfl⟩)
   refine bodyPost_ret (v:=.tuple #[.agg #[.string a,.string b,.string c,.string e,.bool h,.bool k2,.int .i64 (room:Int),.int .i64 (ops:Int),.int .i64 (arm:Int),.bool dead],.int .i64 22]) (by simp [results,Tryz.results75,go_sem]) rfl ⟨rfl,?_⟩
   repeat (first | exact bel1 w _ | refine Below.drew ?_ | refine qab ?_ _)
  have hfull':¬ (r.room:Int) < (r.a.size:Int) + (r.b.size:Int) + (r.c.size:Int) + (r.e.size:Int) + (s.size:Int):=by have:r.tot=r.a.size + r.b.size + r.c.size + r.e.size:=rfl;omega
  have HQ:Hid (qnp r (k:Int) s=(r.app k s,r.offC)):=by show _=_;unfold qnp;rw [if_neg (by omega),if_neg hfull];rfl
  rw [HQ.out]
  have HG:=hI (fun W=>qkq r W hok.ops hok.arm)
  have HS:Hid (r.app k s=if k=0 then { r.goes with c:=r.c ++ s } else { r.goes with e:=r.e ++ s }):=rfl
  have HC:Hid (r.offC=if r.off then 20 else 0):=rfl
  obtain ⟨z1,z2,z3,z4⟩:=hok
  unfold RD.tot at z1
  clear HQ hu
  obtain ⟨x,y,z,hx⟩:=qse r
  rw [hx] at HG HS
  generalize r.off=off at HG HS HC
  generalize r.offC=oc at HC ⊢
  obtain ⟨a,b,c,e,h,k2,room,ops,arm,dead⟩:=r
  unfold qet
  rw [HS.out]
  unfold rdV qbh at *
  dsimp only at *
  clear HS hx hdd hfull
  rcases hk with rfl | rfl
  ·cases off
   ·have hc:oc=0:=HC.out
    rw [hc]
    simp only [↓reduceIte]
    go_enter Tryz.func75,Tryz.ntmps75
    go_wp2_with (first | (go_at_call 69;refine (HW.out _).mono ?_;rintro _ _ ⟨rfl,o1,rfl⟩) | (go_at_call 113;refine (HG.out _).mono ?_;rintro _ _ ⟨rfl,o2,o3,rfl⟩))
    refine bodyPost_ret (v:=.tuple #[.agg #[.string a,.string b,.string (c ++ s),.string e,.bool h,.bool k2,.int .i64 (room:Int),.int .i64 (x:Int),.int .i64 (y:Int),.bool z],.int .i64 0]) (by simp [results,Tryz.results75,go_sem]) rfl ⟨rfl,?_⟩
    repeat (first | exact bel1 w _ | refine Below.drew ?_ | refine qab ?_ _)
   ·have hc:oc=20:=HC.out
    rw [hc]
    simp only [↓reduceIte]
    go_enter Tryz.func75,Tryz.ntmps75
    go_wp2_with (first | (go_at_call 69;refine (HW.out _).mono ?_;rintro _ _ ⟨rfl,o1,rfl⟩) | (go_at_call 113;refine (HG.out _).mono ?_;rintro _ _ ⟨rfl,o2,o3,rfl⟩))
    refine bodyPost_ret (v:=.tuple #[.agg #[.string a,.string b,.string (c ++ s),.string e,.bool h,.bool k2,.int .i64 (room:Int),.int .i64 (x:Int),.int .i64 (y:Int),.bool z],.int .i64 20]) (by simp [results,Tryz.results75,go_sem]) rfl ⟨rfl,?_⟩
    repeat (first | exact bel1 w _ | refine Below.drew ?_ | refine qab ?_ _)
  ·cases off
   ·have hc:oc=0:=HC.out
    rw [hc]
    simp only [Nat.reduceEqDiff,↓reduceIte]
    go_enter Tryz.func75,Tryz.ntmps75
    go_wp2_with (first | (go_at_call 69;refine (HW.out _).mono ?_;rintro _ _ ⟨rfl,o1,rfl⟩) | (go_at_call 113;refine (HG.out _).mono ?_;rintro _ _ ⟨rfl,o2,o3,rfl⟩))
    refine bodyPost_ret (v:=.tuple #[.agg #[.string a,.string b,.string c,.string (e ++ s),.bool h,.bool k2,.int .i64 (room:Int),.int .i64 (x:Int),.int .i64 (y:Int),.bool z],.int .i64 0]) (by simp [results,Tryz.results75,go_sem]) rfl ⟨rfl,?_⟩
    repeat (first | exact bel1 w _ | refine Below.drew ?_ | refine qab ?_ _)
   ·have hc:oc=20:=HC.out
    rw [hc]
    simp only [Nat.reduceEqDiff,↓reduceIte]
    go_enter Tryz.func75,Tryz.ntmps75
    go_wp2_with (first | (go_at_call 69;refine (HW.out _).mono ?_;rintro _ _ ⟨rfl,o1,rfl⟩) | (go_at_call 113;refine (HG.out _).mono ?_;rintro _ _ ⟨rfl,o2,o3,rfl⟩))
    refine bodyPost_ret (v:=.tuple #[.agg #[.string a,.string b,.string c,.string (e ++ s),.bool h,.bool k2,.int .i64 (room:Int),.int .i64 (x:Int),.int .i64 (y:Int),.bool z],.int .i64 20]) (by simp [results,Tryz.results75,go_sem]) rfl ⟨rfl,?_⟩
    repeat (first | exact bel1 w _ | refine Below.drew ?_ | refine qab ?_ _)
 ·have HW:=hI (fun W=>qdj r f W)
  have HQ:Hid (qnp r f s=(r,r.up f)):=by show _=_;unfold qnp;rw [if_pos hu]
  rw [HQ.out]
  have hu':(((r.up f:Nat):Int) != 0)=true:=by simp;omega
  generalize r.up f=u at HW hu hu' ⊢
  clear hok HQ hu
  obtain ⟨a,b,c,e,h,k2,room,ops,arm,dead⟩:=r
  unfold qet rdV qbh at *
  dsimp only at *
  go_enter Tryz.func75,Tryz.ntmps75
  go_wp2_with (go_at_call 69;refine (HW.out _).mono ?_;rintro _ _ ⟨rfl,o1,rfl⟩)
  refine bodyPost_ret (v:=.tuple #[.agg #[.string a,.string b,.string c,.string e,.bool h,.bool k2,.int .i64 (room:Int),.int .i64 (ops:Int),.int .i64 (arm:Int),.bool dead],.int .i64 (u:Int)]) (by simp [results,Tryz.results75,go_sem]) rfl ⟨rfl,?_⟩
  repeat (first | exact bel1 w _ | refine Below.drew ?_ | refine qab ?_ _)
set_option maxHeartbeats 2000000 in
theorem qkr (r:RD) (f:Int) (w:World) (hok:r.ok) :
 Calls Tryz.prog 76 #[rdV r,.int .i64 f] w (qet (qkp r f) w):=by
 by_cases hu:r.up f=0
 ·obtain ⟨hdd,k,hk,hf⟩:=qjp hu
  subst hf
  have HW:=hI (fun W=>qdj r (k:Int) W)
  rw [hu] at HW
  have HQ:Hid (qkp r (k:Int)=(r.sync k,r.offC)):=by show _=_;unfold qkp;rw [if_neg (by omega)];rfl
  rw [HQ.out]
  have HG:=hI (fun W=>qkq r W hok.ops hok.arm)
  have HS:Hid (r.sync k=if r.off then r.goes else if k=0 then { r.goes with a:=r.a ++ r.c,c:=⟨#[]⟩ } else { r.goes with b:=r.b ++ r.e,e:=⟨#[]⟩ }):=rfl
  have HC:Hid (r.offC=if r.off then 20 else 0):=rfl
  obtain ⟨z1,z2,z3,z4⟩:=hok
  unfold RD.tot at z1
  clear HQ hu
  obtain ⟨x,y,z,hx⟩:=qse r
  rw [hx] at HG HS
  generalize r.off=off at HG HS HC
  generalize r.offC=oc at HC ⊢
  obtain ⟨a,b,c,e,h,k2,room,ops,arm,dead⟩:=r
  unfold qet
  rw [HS.out]
  unfold rdV qbh at *
  dsimp only at *
  clear HS hx hdd
  rcases hk with rfl | rfl
  ·cases off
   ·have hc:oc=0:=HC.out
    rw [hc]
    simp only [Bool.false_eq_true,↓reduceIte]
    go_enter Tryz.func76,Tryz.ntmps76
    go_wp2_with (first | (go_at_call 69;refine (HW.out _).mono ?_;rintro _ _ ⟨rfl,o1,rfl⟩) | (go_at_call 113;refine (HG.out _).mono ?_;rintro _ _ ⟨rfl,o2,o3,rfl⟩))
    go_region
    go_wp2
    refine bodyPost_ret (v:=.tuple #[.agg #[.string (a ++ c),.string b,.string ⟨#[]⟩,.string e,.bool h,.bool k2,.int .i64 (room:Int),.int .i64 (x:Int),.int .i64 (y:Int),.bool z],.int .i64 0]) (by simp [results,Tryz.results76,go_sem]) rfl ⟨rfl,?_⟩
    repeat (first | exact bel1 w _ | refine Below.drew ?_ | refine qab ?_ _)
   ·have hc:oc=20:=HC.out
    rw [hc]
    simp only [↓reduceIte]
    go_enter Tryz.func76,Tryz.ntmps76
    go_wp2_with (first | (go_at_call 69;refine (HW.out _).mono ?_;rintro _ _ ⟨rfl,o1,rfl⟩) | (go_at_call 113;refine (HG.out _).mono ?_;rintro _ _ ⟨rfl,o2,o3,rfl⟩))
    refine bodyPost_ret (v:=.tuple #[.agg #[.string a,.string b,.string c,.string e,.bool h,.bool k2,.int .i64 (room:Int),.int .i64 (x:Int),.int .i64 (y:Int),.bool z],.int .i64 20]) (by simp [results,Tryz.results76,go_sem]) rfl ⟨rfl,?_⟩
    repeat (first | exact bel1 w _ | refine Below.drew ?_ | refine qab ?_ _)
  ·cases off
   ·have hc:oc=0:=HC.out
    rw [hc]
    simp only [Bool.false_eq_true,Nat.reduceEqDiff,↓reduceIte]
    go_enter Tryz.func76,Tryz.ntmps76
    go_wp2_with (first | (go_at_call 69;refine (HW.out _).mono ?_;rintro _ _ ⟨rfl,o1,rfl⟩) | (go_at_call 113;refine (HG.out _).mono ?_;rintro _ _ ⟨rfl,o2,o3,rfl⟩))
    go_region
    go_wp2
    refine bodyPost_ret (v:=.tuple #[.agg #[.string a,.string (b ++ e),.string c,.string ⟨#[]⟩,.bool h,.bool k2,.int .i64 (room:Int),.int .i64 (x:Int),.int .i64 (y:Int),.bool z],.int .i64 0]) (by simp [results,Tryz.results76,go_sem]) rfl ⟨rfl,?_⟩
    repeat (first | exact bel1 w _ | refine Below.drew ?_ | refine qab ?_ _)
   ·have hc:oc=20:=HC.out
    rw [hc]
    simp only [↓reduceIte]
    go_enter Tryz.func76,Tryz.ntmps76
    go_wp2_with (first | (go_at_call 69;refine (HW.out _).mono ?_;rintro _ _ ⟨rfl,o1,rfl⟩) | (go_at_call 113;refine (HG.out _).mono ?_;rintro _ _ ⟨rfl,o2,o3,rfl⟩))
    refine bodyPost_ret (v:=.tuple #[.agg #[.string a,.string b,.string c,.string e,.bool h,.bool k2,.int .i64 (room:Int),.int .i64 (x:Int),.int .i64 (y:Int),.bool z],.int .i64 20]) (by simp [results,Tryz.results76,go_sem]) rfl ⟨rfl,?_⟩
    repeat (first | exact bel1 w _ | refine Below.drew ?_ | refine qab ?_ _)
 ·have HW:=hI (fun W=>qdj r f W)
  have HQ:Hid (qkp r f=(r,r.up f)):=by show _=_;unfold qkp;rw [if_pos hu]
  rw [HQ.out]
  have hu':(((r.up f:Nat):Int) != 0)=true:=by simp;omega
  generalize r.up f=u at HW hu hu' ⊢
  clear hok HQ hu
  obtain ⟨a,b,c,e,h,k2,room,ops,arm,dead⟩:=r
  unfold qet rdV qbh at *
  dsimp only at *
  go_enter Tryz.func76,Tryz.ntmps76
  go_wp2_with (go_at_call 69;refine (HW.out _).mono ?_;rintro _ _ ⟨rfl,o1,rfl⟩)
  refine bodyPost_ret (v:=.tuple #[.agg #[.string a,.string b,.string c,.string e,.bool h,.bool k2,.int .i64 (room:Int),.int .i64 (ops:Int),.int .i64 (arm:Int),.bool dead],.int .i64 (u:Int)]) (by simp [results,Tryz.results76,go_sem]) rfl ⟨rfl,?_⟩
  repeat (first | exact bel1 w _ | refine Below.drew ?_ | refine qab ?_ _)
set_option maxHeartbeats 2000000 in
theorem qme (r:RD) (f:Int) (w:World) (hok:r.ok) :
 Calls Tryz.prog 73 #[rdV r,.int .i64 f] w (qet (qhd r f) w):=by
 by_cases hu:r.up f=0
 ·obtain ⟨hdd,k,hk,hf⟩:=qjp hu
  subst hf
  have HW:=hI (fun W=>qdj r (k:Int) W)
  rw [hu] at HW
  have HQ:Hid (qhd r (k:Int)=(r.reset k,r.offC)):=by show _=_;unfold qhd;rw [if_neg (by omega)];rfl
  rw [HQ.out]
  have HG:=hI (fun W=>qkq r W hok.ops hok.arm)
  have HS:Hid (r.reset k=if r.off then (if k=0 then { r.goes with h:=true } else { r.goes with k:=true }) else if k=0 then { r.goes with a:=⟨#[]⟩,c:=⟨#[]⟩,h:=false } else { r.goes with b:=⟨#[]⟩,e:=⟨#[]⟩,k:=false }):=rfl
  have HC:Hid (r.offC=if r.off then 20 else 0):=rfl
  obtain ⟨z1,z2,z3,z4⟩:=hok
  unfold RD.tot at z1
  clear HQ hu
  obtain ⟨x,y,z,hx⟩:=qse r
  rw [hx] at HG HS
  generalize r.off=off at HG HS HC
  generalize r.offC=oc at HC ⊢
  obtain ⟨a,b,c,e,h,k2,room,ops,arm,dead⟩:=r
  unfold qet
  rw [HS.out]
  unfold rdV qbh at *
  dsimp only at *
  clear HS hx hdd
  rcases hk with rfl | rfl
  ·cases off
   ·have hc:oc=0:=HC.out
    rw [hc]
    simp only [Bool.false_eq_true,↓reduceIte]
    go_enter Tryz.func73,Tryz.ntmps73
    go_wp2_with (first | (go_at_call 69;refine (HW.out _).mono ?_;rintro _ _ ⟨rfl,o1,rfl⟩) | (go_at_call 113;refine (HG.out _).mono ?_;rintro _ _ ⟨rfl,o2,o3,rfl⟩))
    refine bodyPost_ret (v:=.tuple #[.agg #[.string ⟨#[]⟩,.string b,.string ⟨#[]⟩,.string e,.bool false,.bool k2,.int .i64 (room:Int),.int .i64 (x:Int),.int .i64 (y:Int),.bool z],.int .i64 0]) (by simp [results,Tryz.results73,go_sem]) rfl ⟨rfl,?_⟩
    repeat (first | exact bel1 w _ | refine Below.drew ?_ | refine qab ?_ _)
   ·have hc:oc=20:=HC.out
    rw [hc]
    simp only [↓reduceIte]
    go_enter Tryz.func73,Tryz.ntmps73
    go_wp2_with (first | (go_at_call 69;refine (HW.out _).mono ?_;rintro _ _ ⟨rfl,o1,rfl⟩) | (go_at_call 113;refine (HG.out _).mono ?_;rintro _ _ ⟨rfl,o2,o3,rfl⟩))
    refine bodyPost_ret (v:=.tuple #[.agg #[.string a,.string b,.string c,.string e,.bool true,.bool k2,.int .i64 (room:Int),.int .i64 (x:Int),.int .i64 (y:Int),.bool z],.int .i64 20]) (by simp [results,Tryz.results73,go_sem]) rfl ⟨rfl,?_⟩
    repeat (first | exact bel1 w _ | refine Below.drew ?_ | refine qab ?_ _)
  ·cases off
   ·have hc:oc=0:=HC.out
    rw [hc]
    simp only [Bool.false_eq_true,Nat.reduceEqDiff,↓reduceIte]
    go_enter Tryz.func73,Tryz.ntmps73
    go_wp2_with (first | (go_at_call 69;refine (HW.out _).mono ?_;rintro _ _ ⟨rfl,o1,rfl⟩) | (go_at_call 113;refine (HG.out _).mono ?_;rintro _ _ ⟨rfl,o2,o3,rfl⟩))
    refine bodyPost_ret (v:=.tuple #[.agg #[.string a,.string ⟨#[]⟩,.string c,.string ⟨#[]⟩,.bool h,.bool false,.int .i64 (room:Int),.int .i64 (x:Int),.int .i64 (y:Int),.bool z],.int .i64 0]) (by simp [results,Tryz.results73,go_sem]) rfl ⟨rfl,?_⟩
    repeat (first | exact bel1 w _ | refine Below.drew ?_ | refine qab ?_ _)
   ·have hc:oc=20:=HC.out
    rw [hc]
    simp only [Nat.reduceEqDiff,↓reduceIte]
    go_enter Tryz.func73,Tryz.ntmps73
    go_wp2_with (first | (go_at_call 69;refine (HW.out _).mono ?_;rintro _ _ ⟨rfl,o1,rfl⟩) | (go_at_call 113;refine (HG.out _).mono ?_;rintro _ _ ⟨rfl,o2,o3,rfl⟩))
    refine bodyPost_ret (v:=.tuple #[.agg #[.string a,.string b,.string c,.string e,.bool h,.bool true,.int .i64 (room:Int),.int .i64 (x:Int),.int .i64 (y:Int),.bool z],.int .i64 20]) (by simp [results,Tryz.results73,go_sem]) rfl ⟨rfl,?_⟩
    repeat (first | exact bel1 w _ | refine Below.drew ?_ | refine qab ?_ _)
 ·have HW:=hI (fun W=>qdj r f W)
  have HQ:Hid (qhd r f=(r,r.up f)):=by show _=_;unfold qhd;rw [if_pos hu]
  rw [HQ.out]
  have hu':(((r.up f:Nat):Int) != 0)=true:=by simp;omega
  generalize r.up f=u at HW hu hu' ⊢
  clear hok HQ hu
  obtain ⟨a,b,c,e,h,k2,room,ops,arm,dead⟩:=r
  unfold qet rdV qbh at *
  dsimp only at *
  go_enter Tryz.func73,Tryz.ntmps73
  go_wp2_with (go_at_call 69;refine (HW.out _).mono ?_;rintro _ _ ⟨rfl,o1,rfl⟩)
  refine bodyPost_ret (v:=.tuple #[.agg #[.string a,.string b,.string c,.string e,.bool h,.bool k2,.int .i64 (room:Int),.int .i64 (ops:Int),.int .i64 (arm:Int),.bool dead],.int .i64 (u:Int)]) (by simp [results,Tryz.results73,go_sem]) rfl ⟨rfl,?_⟩
  repeat (first | exact bel1 w _ | refine Below.drew ?_ | refine qab ?_ _)
end Go.Proofs.YtjkecckndfcbjaaGreatDoor
namespace Go.Proofs.YtjkecckndfcbjaaGreatDoor
open Go.RowKit
set_option maxRecDepth 100000
def rNewD (room:Nat):RD:=⟨⟨#[]⟩,⟨#[]⟩,⟨#[]⟩,⟨#[]⟩,false,false,room,0,0,false⟩
def rNewQ (room:Int):RD×Nat:=if room < 1∨1000000 < room then (rNewD 0,2) else (rNewD room.toNat,0)
def RD.dies (r:RD):RD:={ r with dead:=true }
set_option maxHeartbeats 2000000 in
theorem rNew_any (room:Int) (w:World) :
 Calls Tryz.prog 9 #[.int .i64 room] w (qet (rNewQ room) w):=by
 unfold qet rNewQ
 by_cases h1:room < 1
 ·rw [if_pos (Or.inl h1)]
  unfold rdV qbh rNewD
  go_enter Tryz.func9,Tryz.ntmps9
  go_wp2
  refine bodyPost_ret (v:=.tuple #[.agg #[.string ⟨#[]⟩,.string ⟨#[]⟩,.string ⟨#[]⟩,.string ⟨#[]⟩,.bool false,.bool false,.int .i64 0,.int .i64 0,.int .i64 0,.bool false],.int .i64 2]) (by simp [results,Tryz.results9,go_sem]) rfl ⟨rfl,?_⟩
  repeat (first | exact bel1 w _ | refine Below.drew ?_ | refine qao ?_ _ | refine qab ?_ _)
 ·by_cases h2:1000000 < room
  ·rw [if_pos (Or.inr h2)]
   unfold rdV qbh rNewD
   go_enter Tryz.func9,Tryz.ntmps9
   go_wp2
   refine bodyPost_ret (v:=.tuple #[.agg #[.string ⟨#[]⟩,.string ⟨#[]⟩,.string ⟨#[]⟩,.string ⟨#[]⟩,.bool false,.bool false,.int .i64 0,.int .i64 0,.int .i64 0,.bool false],.int .i64 2]) (by simp [results,Tryz.results9,go_sem]) rfl ⟨rfl,?_⟩
   repeat (first | exact bel1 w _ | refine Below.drew ?_ | refine qao ?_ _ | refine qab ?_ _)
  ·rw [if_neg (by omega)]
   have e:((room.toNat:Nat):Int)=room:=by omega
   unfold rdV qbh rNewD
   dsimp only
   rw [e]
   go_enter Tryz.func9,Tryz.ntmps9
   go_wp2
   refine bodyPost_ret (v:=.tuple #[.agg #[.string ⟨#[]⟩,.string ⟨#[]⟩,.string ⟨#[]⟩,.string ⟨#[]⟩,.bool false,.bool false,.int .i64 room,.int .i64 0,.int .i64 0,.bool false],.int .i64 0]) (by simp [results,Tryz.results9,go_sem]) rfl ⟨rfl,?_⟩
   repeat (first | exact bel1 w _ | refine Below.drew ?_ | refine qao ?_ _ | refine qab ?_ _)
set_option maxHeartbeats 2000000 in
theorem rArm_any (r:RD) (k:Int) (w:World) :
 Calls Tryz.prog 20 #[rdV r,.int .i64 k] w (qet (rArmQ r k) w):=by
 obtain ⟨a,b,c,e,h,k2,room,ops,arm,dead⟩:=r
 unfold qet rArmQ
 dsimp only
 cases dead
 ·rw [if_neg (by simp)]
  by_cases h1:k < 1
  ·rw [if_pos (Or.inl h1)]
   unfold rdV qbh
   dsimp only
   go_enter Tryz.func20,Tryz.ntmps20
   go_wp2
   refine bodyPost_ret (v:=.tuple #[.agg #[.string a,.string b,.string c,.string e,.bool h,.bool k2,.int .i64 (room:Int),.int .i64 (ops:Int),.int .i64 (arm:Int),.bool false],.int .i64 2]) (by simp [results,Tryz.results20,go_sem]) rfl ⟨rfl,?_⟩
   repeat (first | exact bel1 w _ | refine Below.drew ?_ | refine qao ?_ _ | refine qab ?_ _)
  ·by_cases h2:1000000 < k
   ·rw [if_pos (Or.inr h2)]
    unfold rdV qbh
    dsimp only
    go_enter Tryz.func20,Tryz.ntmps20
    go_wp2
    refine bodyPost_ret (v:=.tuple #[.agg #[.string a,.string b,.string c,.string e,.bool h,.bool k2,.int .i64 (room:Int),.int .i64 (ops:Int),.int .i64 (arm:Int),.bool false],.int .i64 2]) (by simp [results,Tryz.results20,go_sem]) rfl ⟨rfl,?_⟩
    repeat (first | exact bel1 w _ | refine Below.drew ?_ | refine qao ?_ _ | refine qab ?_ _)
   ·rw [if_neg (by omega)]
    have e:((k.toNat:Nat):Int)=k:=by omega
    unfold rdV qbh
    dsimp only
    rw [e]
    go_enter Tryz.func20,Tryz.ntmps20
    go_wp2
    refine bodyPost_ret (v:=.tuple #[.agg #[.string a,.string b,.string c,.string _,.bool h,.bool k2,.int .i64 (room:Int),.int .i64 (ops:Int),.int .i64 k,.bool false],.int .i64 0]) (by simp [results,Tryz.results20,go_sem]) rfl ⟨rfl,?_⟩
    repeat (first | exact bel1 w _ | refine Below.drew ?_ | refine qao ?_ _ | refine qab ?_ _)
 ·rw [if_pos rfl]
  unfold rdV qbh
  dsimp only
  go_enter Tryz.func20,Tryz.ntmps20
  go_wp2
  refine bodyPost_ret (v:=.tuple #[.agg #[.string a,.string b,.string c,.string e,.bool h,.bool k2,.int .i64 (room:Int),.int .i64 (ops:Int),.int .i64 (arm:Int),.bool true],.int .i64 20]) (by simp [results,Tryz.results20,go_sem]) rfl ⟨rfl,?_⟩
  repeat (first | exact bel1 w _ | refine Below.drew ?_ | refine qao ?_ _ | refine qab ?_ _)
set_option maxHeartbeats 2000000 in
theorem rOff_any (r:RD) (w:World) :
 Calls Tryz.prog 82 #[rdV r] w fun e w'=>e=.returned (rdV r.dies)∧Below w.heap.size w w':=by
 obtain ⟨a,b,c,e,h,k2,room,ops,arm,dead⟩:=r
 unfold RD.dies rdV qbh
 dsimp only
 go_enter Tryz.func82,Tryz.ntmps82
 go_wp2
 refine bodyPost_ret (v:=.agg #[.string a,.string b,.string c,.string e,.bool h,.bool k2,.int .i64 (room:Int),.int .i64 (ops:Int),.int .i64 (arm:Int),.bool true]) (by simp [results,Tryz.results82,go_sem]) rfl ⟨rfl,?_⟩
 repeat (first | exact bel1 w _ | refine Below.drew ?_ | refine qao ?_ _ | refine qab ?_ _)
def qgg (x:ByteArray×Nat) (w:World) (e:Ending) (w':World):Prop:=e=.returned (.tuple #[.string x.1,.int .i64 (x.2:Int)])∧Below w.heap.size w w'
set_option maxHeartbeats 2000000 in
theorem qfh (r:RD) (f:Int) (w:World) (hok:r.ok) :
 Calls Tryz.prog 39 #[rdV r,.int .i64 f] w (qgg (qgf r f) w):=by
 by_cases hu:r.up f=0
 ·obtain ⟨hdd,k,hk,hf⟩:=qjp hu
  subst hf
  have HW:=hI (fun W=>qdj r (k:Int) W)
  rw [hu] at HW
  have HQ:Hid (qgf r (k:Int)=(if (k:Int)=0 then r.a ++ r.c else r.b ++ r.e,0)):=by show _=_;unfold qgf;rw [if_neg (by omega)]
  rw [HQ.out]
  obtain ⟨z1,z2,-,-⟩:=hok
  unfold RD.tot at z1
  clear HQ hu hdd
  obtain ⟨a,b,c,e,h,k2,room,ops,arm,dead⟩:=r
  unfold qgg rdV qbh at *
  dsimp only at *
  rcases hk with rfl | rfl
  ·go_enter Tryz.func39,Tryz.ntmps39
   go_wp2_with (go_at_call 69;refine (HW.out _).mono ?_;rintro _ _ ⟨rfl,o1,rfl⟩)
   go_quiet (fail)
   go_wp2
   refine bodyPost_ret (v:=.tuple #[.string (a ++ c),.int .i64 0]) (by simp [results,Tryz.results39,go_sem]) rfl ⟨rfl,?_⟩
   repeat (first | exact bel1 w _ | refine Below.drew ?_ | refine qao ?_ _ | refine qab ?_ _)
  ·go_enter Tryz.func39,Tryz.ntmps39
   go_wp2_with (go_at_call 69;refine (HW.out _).mono ?_;rintro _ _ ⟨rfl,o1,rfl⟩)
   go_quiet (fail)
   go_wp2
   refine bodyPost_ret (v:=.tuple #[.string (b ++ e),.int .i64 0]) (by simp [results,Tryz.results39,go_sem]) rfl ⟨rfl,?_⟩
   repeat (first | exact bel1 w _ | refine Below.drew ?_ | refine qao ?_ _ | refine qab ?_ _)
 ·have HW:=hI (fun W=>qdj r f W)
  have HQ:Hid (qgf r f=(⟨#[]⟩,r.up f)):=by show _=_;unfold qgf;rw [if_pos hu]
  rw [HQ.out]
  have hn:((r.up f:Int) != 0)=true:=by simp;omega
  generalize r.up f=u at HW hn ⊢
  clear HQ hu
  obtain ⟨a,b,c,e,h,k2,room,ops,arm,dead⟩:=r
  unfold qgg rdV qbh at *
  dsimp only at *
  go_enter Tryz.func39,Tryz.ntmps39
  go_wp2_with (go_at_call 69;refine (HW.out _).mono ?_;rintro _ _ ⟨rfl,o1,rfl⟩)
  refine bodyPost_ret (v:=.tuple #[.string ⟨#[]⟩,.int .i64 (u:Int)]) (by simp [results,Tryz.results39,go_sem]) rfl ⟨rfl,?_⟩
  repeat (first | exact bel1 w _ | refine Below.drew ?_ | refine qao ?_ _ | refine qab ?_ _)
end Go.Proofs.YtjkecckndfcbjaaGreatDoor
