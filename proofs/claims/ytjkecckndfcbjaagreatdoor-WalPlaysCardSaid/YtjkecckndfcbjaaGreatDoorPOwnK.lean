/- Texts that the law leans on. -/
import Derived.Laws.AppendOwnNone
import Derived.Laws.OwnMore
import Derived.OwnWalk
import Derived.Test.YtjkecckndfcbjaaGreatDoorPRead
import Derived.Laws.StructEq
import Derived.Lib.Strings
namespace Go.Proofs.YtjkecckndfcbjaaGreatDoor
open Go.RowKit Go.Sort Go.Lib
section
variable {α:Type} [Inhabited α] {enc:α→List Value} {k:Nat} {w w':World} {A:Option Addr} {d:Array α} {B base:Nat} {e:TypeId} {v:Value}
theorem qqn (enc:α→List Value) (k:Nat) (d:Array α) (t:Nat) (h:t < d.size * k):(flatK enc k d).toList[t]?=some (enc d[t / k]!)[t % k]!:=by
 have hs:t < (flatK enc k d).size:=by rw [size_flatK];exact h
 rw [Array.getElem?_toList,Array.getElem?_eq_getElem hs,←get_flatK enc k d t h,getElem!_pos _ t hs]
theorem qgp (hk:∀ x,(enc x).length=k) (d:Array α) (x:α):(flatK enc k (d.push x)).toList=(flatK enc k d).toList ++ enc x:=by
 apply List.ext_getElem?
 intro t
 have hm:(d.size + 1) * k=d.size * k + k:=by rw [Nat.add_mul,Nat.one_mul]
 rcases Nat.lt_or_ge t (d.size * k) with h1 | h1
 ·rw [List.getElem?_append_left (by simpa using h1),qqn _ _ _ _ h1,qqn _ _ _ _ (by rw [Array.size_push,hm];omega)]
  have hq:t / k < d.size:=by
   rw [Nat.mul_comm] at h1
   exact Nat.div_lt_of_lt_mul h1
  have e1:(d.push x)[t / k]! = d[t / k]!:=by
   rw [getElem!_pos (d.push x) _ (by simp;omega),getElem!_pos d _ hq,Array.getElem_push_lt]
  rw [e1]
 ·rw [List.getElem?_append_right (by simpa using h1)]
  have hl:(flatK enc k d).toList.length=d.size * k:=by simp
  rw [hl]
  rcases Nat.lt_or_ge t (d.size * k + k) with h2 | h2
  ·obtain ⟨c,rfl⟩:∃ c,t=d.size * k + c:=⟨t - d.size * k,by omega⟩
   have hc:c < k:=by omega
   have hs:d.size * k + c < (flatK enc k (d.push x)).size:=by simp [hm];omega
   rw [Array.getElem?_toList,Array.getElem?_eq_getElem hs,←getElem!_pos (flatK enc k (d.push x)) _ hs,flat_at _ _ _ _ _ (by simp) hc]
   have e1:(d.push x)[d.size]! = x:=by rw [getElem!_pos (d.push x) d.size (by simp)];simp
   rw [e1,Nat.add_sub_cancel_left,List.getElem!_eq_getElem?_getD,List.getElem?_eq_getElem (by rw [hk];exact hc)]
   rfl
  ·rw [List.getElem?_eq_none (by simp [hm];omega),List.getElem?_eq_none (by rw [hk];omega)]
theorem qmn (hk:∀ x,(enc x).length=k) (d:Array α):∀ l:List α,(flatK enc k (d ++ l.toArray)).toList=(flatK enc k d).toList ++ l.flatMap enc
 | []=>by simp
 | x :: l=>by
   have:=qmn hk (d.push x) l
   have e1:d ++ (x :: l).toArray=d.push x ++ l.toArray:=by apply Array.ext';simp
   rw [e1,this,qgp hk,List.flatMap_cons,List.append_assoc]
theorem qqo (enc:α→List Value) (k:Nat):(flatK enc k #[]).toList=[]:=by simp [flatK]
theorem qfx (hk:∀ x,(enc x).length=k) (d:Array α):(flatK enc k d).toList=d.toList.flatMap enc:=by
 have:=qmn hk #[] d.toList
 simpa [qqo] using this
theorem qbo (h:w.ownsRow base e k v d.size (flatK enc k d).toList) :
 ∃ A c,v=.slice A d.size c∧RdK enc k w.heap.size w A d∧(A=none→c=0):=by
 by_cases hn:v=.slice none 0 0
 ·subst hn
  obtain ⟨_,⟨_,h0⟩ | ⟨g,cap,cur,hv,_⟩⟩:=h
  ·exact ⟨none,0,by rw [h0],fun h=>absurd h0 (by omega),fun _=>rfl⟩
  ·cases hv
 ·obtain ⟨g,cap,hv,_,hlt,hH⟩:=qic h hn
  exact ⟨_,cap,hv,RdK.of_holds hH hlt,fun h=>by cases h⟩
theorem qec (w:World) (base:Nat) (e:TypeId) (enc:α→List Value) (k:Nat):w.ownsRow base e k (.slice none 0 0) (#[]:Array α).size (flatK enc k #[]).toList:=by
 rw [qqo]
 exact World.ownsRow_nil w base e k
end
end Go.Proofs.YtjkecckndfcbjaaGreatDoor
namespace Go.Proofs.YtjkecckndfcbjaaGreatDoor
open Go.RowKit Go.Sort
def encI (x:Int):Value:=.int .i64 x
def RdI (B:Nat) (w:World) (A:Option Addr) (d:Array Int):Prop :=
 0 < d.size→∃ b off,A=some ⟨b,off,none⟩∧b < B∧∀ i,i < d.size→w.cell? ⟨b,off + i,none⟩=some (.int .i64 d[i]!)
section
variable {w w':World} {A:Option Addr} {d:Array Int} {B:Nat}
theorem RdI.below (h:RdI B w A d) (hb:Below B w w'):RdI B w' A d:=fun h0=>by
 obtain ⟨b,off,e,hlt,hc⟩:=h h0
 exact ⟨b,off,e,hlt,fun t ht=>(hb.cell (p:=⟨b,off + t,none⟩) hlt).trans (hc t ht)⟩
theorem RdI.mono {B':Nat} (h:RdI B w A d) (hB:B≤B'):RdI B' w A d:=fun h0=>by
 obtain ⟨b,off,e,hlt,hc⟩:=h h0
 exact ⟨b,off,e,by omega,hc⟩
theorem RdI.next (h:RdI w.heap.size w A d) (hb:Below w.heap.size w w'):RdI w'.heap.size w' A d:=(h.below hb).mono hb.size
theorem RdI.alloc (h:RdI B w A d) (hB:B≤w.heap.size) (o:Obj):RdI B (w.alloc o) A d:=h.below ((Below.refl _ _).alloc hB o)
theorem RdI.at_ (h:RdI B w A d) {i:Nat} (hi:i < d.size):∃ b off,A=some ⟨b,off,none⟩∧b < B∧w.cell? ⟨b,off + i,none⟩=some (.int .i64 d[i]!):=by
 obtain ⟨b,off,e,hlt,hc⟩:=h (by omega)
 exact ⟨b,off,e,hlt,hc i hi⟩
theorem RdI.grown (h:RdI w.heap.size w A d) {g:Nat} (hg:w.grownBy w' (some g)) (hne:∀ a,A=some a→a.block≠g):RdI w'.heap.size w' A d:=fun h0=>by
 obtain ⟨b,off,e,hlt,hc⟩:=h h0
 exact ⟨b,off,e,Nat.lt_of_lt_of_le hlt hg.size,fun t ht=>hg.cell (hc t ht) (by intro e';injection e' with e';exact hne _ e e')⟩
theorem RdI.none_:RdI B w A #[]:=fun h=>absurd h (by decide)
theorem RdI.new (w:World) (d:Array Int) (e:TypeId) (cs:Array Value) (h:cs=d.map encI):RdI (w.heap.size + 1) (w.alloc (.cells cs e)) (some ⟨w.heap.size,0,none⟩) d:=fun _ =>
 ⟨_,_,rfl,Nat.lt_succ_self _,fun i hi=>by
  rw [qjx,Nat.zero_add,h,Array.getElem?_map,Array.getElem?_eq_getElem hi,getElem!_pos _ i hi];rfl⟩
theorem RdI.of_owns {base:Nat} {e:TypeId} {v:Value} {xs:List Int} (h:w.ownsRow base e 1 v xs.length (xs.map (Value.int .i64))) :
 ∃ A c,v=.slice A xs.length c∧RdI w.heap.size w A xs.toArray∧((A=none→c=0)∧xs.length≤c)∧(∀ a,A=some a→base≤a.block):=by
 obtain ⟨_,⟨hv,h0⟩ | ⟨g,cap,cur,hv,hb,hh,hnc,hmx,hcur,htk⟩⟩:=h
 ·exact ⟨none,0,by rw [hv,h0],fun hh=>absurd hh (by simp;simpa using h0),⟨fun _=>rfl,Nat.le_of_eq h0⟩,fun _ h=>by cases h⟩
 ·have hlt:g < w.heap.size:=by
   rcases Nat.lt_or_ge g w.heap.size with h | h
   ·exact h
   ·rw [Array.getElem?_eq_none h] at hh;cases hh
  refine ⟨_,cap,hv,fun _=>⟨g,0,rfl,hlt,fun i hi=>?_⟩,⟨(fun h=>by cases h),hnc⟩,fun a h=>by injection h with h;subst h;exact hb⟩
  have hi':i < xs.length:=by simpa using hi
  have e1:cur.toList[i]?=(xs.map (Value.int .i64))[i]?:=by rw [←htk,List.getElem?_take_of_lt (by omega)]
  rw [Array.getElem?_toList] at e1
  simp only [World.cell?,hh,Nat.zero_add]
  rw [getElem!_pos xs.toArray i hi]
  simp [e1,hi']
end
end Go.Proofs.YtjkecckndfcbjaaGreatDoor
namespace Go.Proofs.YtjkecckndfcbjaaGreatDoor
open Go.RowKit Go.Sort Go.Lib
def encA (x:Int×Int):List Value:=[.int .i64 x.1,.int .i64 x.2]
theorem qvb (x:Int×Int):(encA x).length=2:=rfl
theorem attGuard:Tryz.prog.eqGuardType Tryz.prog.depth 265 = false:=by kernel_rfl
theorem neA_run (x y:Int×Int) (w:World):(binOp .neq 265 (.agg #[.int .i64 x.1,.int .i64 x.2]) (.agg #[.int .i64 y.1,.int .i64 y.2])).run Tryz.prog w=.ok (.bool (!decide (x=y))) w:=by
 have hS:Tryz.prog.underlying 265 = some (.struct (Tryz.prog.fieldsOf 265)):=by kernel_rfl
 have hp:Tryz.prog.stoodInHeld 265 = false:=by kernel_rfl
 have u3:=Tryz.underlying3
 rw [run_neq_struct,show (10000:Nat)=9999 + 1 from rfl,run_equalIn_agg w 9999 265 _ _ hS hp]
 simp only [Program.fieldsOf,Tryz.underlying265]
 go_simp
 obtain ⟨x1,x2⟩:=x
 obtain ⟨y1,y2⟩:=y
 by_cases h1:x1=y1 <;> by_cases h2:x2=y2 <;> simp [h1,h2]
theorem arr_ext {α:Type} [Inhabited α] {d1 d2:Array α} (hs:d1.size=d2.size) (h:∀ j,j < d1.size→d1[j]! = d2[j]!):d1=d2 :=
 Array.ext hs fun t h1 h2=>by have:=h t h1;rwa [getElem!_pos d1 t h1,getElem!_pos d2 t h2] at this
theorem RdK.next {α:Type} [Inhabited α] {enc:α→List Value} {k:Nat} {w w':World} {A:Option Addr} {d:Array α} (h:RdK enc k w.heap.size w A d) (hb:Below w.heap.size w w'):RdK enc k w'.heap.size w' A d:=(h.below hb).mono hb.size
set_option maxHeartbeats 1000000 in
theorem EqAtts0 (A1 A2:Option Addr) (c1 c2:Nat) (d1 d2:Array (Int×Int)) (B1 B2:Nat) (w:World) (h1:RdK encA 2 B1 w A1 d1) (h2:RdK encA 2 B2 w A2 d2) (_hn:d1.size≤100000000) (hm:d2.size≤100000000) :
 Calls Tryz.prog 176 #[.slice A1 d1.size c1,.slice A2 d2.size c2] w fun e w'=>e=.returned (.bool (decide (d1=d2)))∧∃ n,w'=w.drewN n:=by
 by_cases hs:d1.size=d2.size
 ·have hb:((d1.size:Int) != (d2.size:Int))=false:=by simp [hs]
  have HS:=hI hs
  have hge:d1.size≤d2.size:=by omega
  clear hs
  go_enter Tryz.func176,Tryz.ntmps176
  go_wp2
  go_loopw [13] (fun i wr=>∃ k n:Nat,k≤d1.size∧i=.int .i64 k∧wr=w.drewN n∧∀ j,j < k→d1[j]! = d2[j]!) (fun i _=>d1.size - (intOf i).toNat)
  case atStart=>exact ⟨0,0,Nat.zero_le _,rfl,rfl,fun j hj=>absurd hj (by omega)⟩
  case round =>
   obtain ⟨k,n,hk,rfl,rfl,hj⟩:=hrel
   have HJ:=hI hj;clear hj
   by_cases hlt:k < d1.size
   ·obtain ⟨b1,o1,rfl,_,f1⟩:=h1.at_ hlt
    obtain ⟨b2,o2,rfl,_,f2⟩:=h2.at_ (i:=k) (by omega)
    have e10:=f1 0 (by omega)
    have e11:=f1 1 (by omega)
    have e20:=f2 0 (by omega)
    have e21:=f2 1 (by omega)
    have hnx:=neA_run d1[k]! d2[k]!
    have hgd:=attGuard
    generalize hx:d1[k]! = x at e10 e11 hnx
    generalize hy:d2[k]! = y at e20 e21 hnx
    have HXX:=hI hx;clear hx
    have HYY:=hI hy;clear hy
    simp only [Nat.add_zero,encA,List.getElem!_cons_zero,List.getElem!_cons_succ] at e10 e11 e20 e21
    clear f1 f2
    have kz:(k:Int) < (d1.size:Int):=by omega
    have kz2:(k:Int) < (d2.size:Int):=by omega
    by_cases hxy:x=y
    ·skip
     have hd:decide (x=y)=true:=by simp [hxy]
     have HXY:=hI hxy;clear hxy
     rw [hd] at hnx
     clear hd
     go_wp2
     go_quiet (fail)
     go_wp2
     go_roundw
     case rel=>exact ⟨k + 1,_,by omega,by go_num,rfl,fun j hj=>by
      rcases Nat.lt_or_ge j k with h | h
      ·exact HJ.out j h
      ·obtain rfl:j=k:=by omega
       rw [HXX.out,HYY.out];exact HXY.out⟩
     case measure=>simp [intOf];omega
    ·skip
     have hd:decide (x=y)=false:=by simp [hxy]
     have HXY:=hI hxy;clear hxy
     rw [hd] at hnx
     clear hd
     go_wp2
     go_quiet (fail)
     go_wp2
     go_ret
     exact ⟨qah (by symm;rw [decide_eq_false_iff_not];rintro rfl;exact HXY.out (by rw [←HXX.out,←HYY.out])),_,World.drewN_drewN _ _ _⟩
   ·go_wp2
    go_ret
    exact ⟨qah (by symm;rw [decide_eq_true_iff];exact arr_ext HS.out fun j hj=>HJ.out j (by omega)),n,rfl⟩
 ·have hb:((d1.size:Int) != (d2.size:Int))=true:=by simp;omega
  have HS:=hI hs
  clear hs
  go_enter Tryz.func176,Tryz.ntmps176
  go_wp2
  go_ret
  exact ⟨qah (by symm;rw [decide_eq_false_iff_not];rintro rfl;exact HS.out rfl),0,rfl⟩
theorem qix (A1 A2:Option Addr) (c1 c2:Nat) (d1 d2:Array (Int×Int)) (B1 B2:Nat) (w:World) (h1:RdK encA 2 B1 w A1 d1) (h2:RdK encA 2 B2 w A2 d2) (hn:d1.size≤100000000) (hm:d2.size≤100000000) :
 Calls Tryz.prog 176 #[.slice A1 d1.size c1,.slice A2 d2.size c2] w fun e w'=>e=.returned (.bool (decide (d1=d2)))∧Below w.heap.size w w' :=
 (EqAtts0 A1 A2 c1 c2 d1 d2 B1 B2 w h1 h2 hn hm).mono fun _ _ ⟨he,n,hw⟩=>⟨he,by rw [hw];exact qao (Below.refl _ _) n⟩
set_option maxHeartbeats 1000000 in
theorem EqInts0 (A1 A2:Option Addr) (c1 c2:Nat) (d1 d2:Array Int) (B1 B2:Nat) (w:World) (h1:RdI B1 w A1 d1) (h2:RdI B2 w A2 d2) (_hn:d1.size≤100000000) (hm:d2.size≤100000000) :
 Calls Tryz.prog 177 #[.slice A1 d1.size c1,.slice A2 d2.size c2] w fun e w'=>e=.returned (.bool (decide (d1=d2)))∧∃ n,w'=w.drewN n:=by
 by_cases hs:d1.size=d2.size
 ·have hb:((d1.size:Int) != (d2.size:Int))=false:=by simp [hs]
  have HS:=hI hs
  have hge:d1.size≤d2.size:=by omega
  clear hs
  go_enter Tryz.func177,Tryz.ntmps177
  go_wp2
  go_loopw [13] (fun i wr=>∃ k n:Nat,k≤d1.size∧i=.int .i64 k∧wr=w.drewN n∧∀ j,j < k→d1[j]! = d2[j]!) (fun i _=>d1.size - (intOf i).toNat)
  case atStart=>exact ⟨0,0,Nat.zero_le _,rfl,rfl,fun j hj=>absurd hj (by omega)⟩
  case round =>
   obtain ⟨k,n,hk,rfl,rfl,hj⟩:=hrel
   have HJ:=hI hj;clear hj
   by_cases hlt:k < d1.size
   ·obtain ⟨b1,o1,rfl,_,e10⟩:=h1.at_ hlt
    obtain ⟨b2,o2,rfl,_,e20⟩:=h2.at_ (i:=k) (by omega)
    generalize hx:d1[k]! = x at e10
    generalize hy:d2[k]! = y at e20
    have HXX:=hI hx;clear hx
    have HYY:=hI hy;clear hy
    have kz:(k:Int) < (d1.size:Int):=by omega
    have kz2:(k:Int) < (d2.size:Int):=by omega
    by_cases hxy:x=y
    ·skip
     have hd:(x != y)=false:=by simp [hxy]
     have HXY:=hI hxy;clear hxy
     go_wp2
     go_quiet (fail)
     go_wp2
     go_roundw
     case rel=>exact ⟨k + 1,_,by omega,by go_num,rfl,fun j hj=>by
      rcases Nat.lt_or_ge j k with h | h
      ·exact HJ.out j h
      ·obtain rfl:j=k:=by omega
       rw [HXX.out,HYY.out];exact HXY.out⟩
     case measure=>simp [intOf];omega
    ·skip
     have hd:(x != y)=true:=by simp [hxy]
     have HXY:=hI hxy;clear hxy
     go_wp2
     go_quiet (fail)
     go_wp2
     go_ret
     exact ⟨qah (by symm;rw [decide_eq_false_iff_not];rintro rfl;exact HXY.out (by rw [←HXX.out,←HYY.out])),_,World.drewN_drewN _ _ _⟩
   ·go_wp2
    go_ret
    exact ⟨qah (by symm;rw [decide_eq_true_iff];exact arr_ext HS.out fun j hj=>HJ.out j (by omega)),n,rfl⟩
 ·have hb:((d1.size:Int) != (d2.size:Int))=true:=by simp;omega
  have HS:=hI hs
  clear hs
  go_enter Tryz.func177,Tryz.ntmps177
  go_wp2
  go_ret
  exact ⟨qah (by symm;rw [decide_eq_false_iff_not];rintro rfl;exact HS.out rfl),0,rfl⟩
theorem qiy (A1 A2:Option Addr) (c1 c2:Nat) (d1 d2:Array Int) (B1 B2:Nat) (w:World) (h1:RdI B1 w A1 d1) (h2:RdI B2 w A2 d2) (hn:d1.size≤100000000) (hm:d2.size≤100000000) :
 Calls Tryz.prog 177 #[.slice A1 d1.size c1,.slice A2 d2.size c2] w fun e w'=>e=.returned (.bool (decide (d1=d2)))∧Below w.heap.size w w' :=
 (EqInts0 A1 A2 c1 c2 d1 d2 B1 B2 w h1 h2 hn hm).mono fun _ _ ⟨he,n,hw⟩=>⟨he,by rw [hw];exact qao (Below.refl _ _) n⟩
end Go.Proofs.YtjkecckndfcbjaaGreatDoor
namespace Go.Proofs.YtjkecckndfcbjaaGreatDoor
open Go.RowKit Go.Sort Go.Lib
structure PM where
 k:Int
 fr:Int
 id:Int
 t:Int
 bal:Int
 abal:Int
 ph:Int
 q:Int
 pay:ByteArray
 lo:Int
 hi:Int
 aA:Option Addr
 aC:Nat
 ats:Array (Int×Int)
 mA:Option Addr
 mC:Nat
 mks:Array Int
 dn:Int
def msgV (m:PM):Value:=.agg #[.int .i64 m.k,.int .i64 m.fr,.int .i64 m.id,.int .i64 m.t,.int .i64 m.bal,.int .i64 m.abal,.int .i64 m.ph,.int .i64 m.q,.string m.pay,.int .i64 m.lo,.int .i64 m.hi,.slice m.aA m.ats.size m.aC,.slice m.mA m.mks.size m.mC,.int .i64 m.dn]
def msgC (m:PM):Array Value:=#[.int .i64 m.k,.int .i64 m.fr,.int .i64 m.id,.int .i64 m.t,.int .i64 m.bal,.int .i64 m.abal,.int .i64 m.ph,.int .i64 m.q,.string m.pay,.int .i64 m.lo,.int .i64 m.hi,.slice m.aA m.ats.size m.aC,.slice m.mA m.mks.size m.mC,.int .i64 m.dn]
structure RdM (w:World) (m:PM):Prop where
 ra:RdK encA 2 w.heap.size w m.aA m.ats
 rm:RdI w.heap.size w m.mA m.mks
 sa:m.ats.size≤1000000
 sm:m.mks.size≤1000000
 sp:m.pay.size≤1000000
theorem RdM.next {w w':World} {m:PM} (h:RdM w m) (hb:Below w.heap.size w w'):RdM w' m:=⟨h.ra.next hb,h.rm.next hb,h.sa,h.sm,h.sp⟩
def qfy (a b:PM):Bool:=decide (a.k=b.k∧a.fr=b.fr∧a.id=b.id∧a.t=b.t∧a.bal=b.bal∧a.abal=b.abal∧a.ph=b.ph∧a.q=b.q∧a.pay=b.pay∧a.lo=b.lo∧a.hi=b.hi∧a.dn=b.dn∧a.ats=b.ats∧a.mks=b.mks)
theorem qvc {a b:ByteArray}:(a.toList == b.toList)=decide (a=b):=by
 by_cases h:a=b
 ·subst h;simp
 ·have:a.toList≠b.toList:=fun e=>h (by
   rw [Lib.toList_data,Lib.toList_data] at e
   exact ByteArray.ext (Array.ext' e))
  simp [h,this]
end Go.Proofs.YtjkecckndfcbjaaGreatDoor
namespace Go.Proofs.YtjkecckndfcbjaaGreatDoor
open Go.RowKit Go.Sort Go.Lib
set_option maxRecDepth 100000 in
set_option maxHeartbeats 4000000 in
theorem Same_1 (a b:PM) (w:World) (ha:RdM w a) (hb:RdM w b) (hpay:a.pay=b.pay) (hats:a.ats=b.ats) (hmks:a.mks=b.mks) :
 Calls Tryz.prog 165 #[msgV a,msgV b] w fun e w'=>e=.returned (.bool (qfy a b))∧Below w.heap.size w w':=by
 have HA:=hI (fun W (h:Below w.heap.size w W)=>qix a.aA b.aA a.aC b.aC a.ats b.ats _ _ W (ha.next h).ra (hb.next h).ra (by have:=ha.sa;omega) (by have:=hb.sa;omega))
 have HM:=hI (fun W (h:Below w.heap.size w W)=>qiy a.mA b.mA a.mC b.mC a.mks b.mks _ _ W (ha.next h).rm (hb.next h).rm (by have:=ha.sm;omega) (by have:=hb.sm;omega))
 unfold msgV
 have hsn:=@qvc a.pay b.pay
 have hdpay:decide (a.pay=b.pay)=true:=by simp [hpay]
 have hdats:decide (a.ats=b.ats)=true:=by simp [hats]
 have hdmks:decide (a.mks=b.mks)=true:=by simp [hmks]
 rw [hdpay] at hsn
 rw [hdats] at HA
 rw [hdmks] at HM
 have HS:Hid (qfy a b=decide (a.k=b.k∧a.fr=b.fr∧a.id=b.id∧a.t=b.t∧a.bal=b.bal∧a.abal=b.abal∧a.ph=b.ph∧a.q=b.q∧a.lo=b.lo∧a.hi=b.hi∧a.dn=b.dn)):=by show _=_;unfold qfy;simp [hpay,hats,hmks]
 clear hpay hdpay hats hdats hmks hdmks ha hb
 go_enter Tryz.func165,Tryz.ntmps165
 go_wp2_with (first | (go_at_call 176;refine (HA.out _ (qab (bel1 w _) _)).mono ?_;rintro e w1 ⟨rfl,hb1⟩;have k1:w1.cell? ⟨w.heap.size,12,none⟩=some (.slice a.mA a.mks.size a.mC):=(hb1.cell (p:=⟨w.heap.size,12,none⟩) (by simp;omega)).trans (by simp);have k2:w1.cell? ⟨w.heap.size + 1,12,none⟩=some (.slice b.mA b.mks.size b.mC):=(hb1.cell (p:=⟨w.heap.size + 1,12,none⟩) (by simp)).trans (by simp);have HB1:=hI (qad (qab (bel1 w _) _) hb1);clear hb1) | (go_at_call 177;refine (HM.out _ HB1.out).mono ?_;rintro e w2 ⟨rfl,hb2⟩;have HB2:=hI (qad HB1.out hb2);clear hb2))
 all_goals go_ret
 all_goals first
  | exact ⟨qah (by rw [HS.out];symm;rw [decide_eq_true_iff];exact ⟨by assumption,by assumption,by assumption,by assumption,by assumption,by assumption,by assumption,by assumption,by assumption,by assumption,by assumption⟩),HB2.out⟩
  | exact ⟨qah (by rw [HS.out];symm;rw [decide_eq_false_iff_not];rintro ⟨h1,h2,h3,h4,h5,h6,h7,h8,h9,h10,h11⟩;first | exact absurd h1 (by assumption) | exact absurd h2 (by assumption) | exact absurd h3 (by assumption) | exact absurd h4 (by assumption) | exact absurd h5 (by assumption) | exact absurd h6 (by assumption) | exact absurd h7 (by assumption) | exact absurd h8 (by assumption) | exact absurd h9 (by assumption) | exact absurd h10 (by assumption) | exact absurd h11 (by assumption)),qab (bel1 w _) _⟩
set_option maxRecDepth 100000 in
set_option maxHeartbeats 4000000 in
theorem Same_2 (a b:PM) (w:World) (ha:RdM w a) (hb:RdM w b) (hpay:a.pay=b.pay) (hats:a.ats=b.ats) (hmks:¬ a.mks=b.mks) :
 Calls Tryz.prog 165 #[msgV a,msgV b] w fun e w'=>e=.returned (.bool (qfy a b))∧Below w.heap.size w w':=by
 have HA:=hI (fun W (h:Below w.heap.size w W)=>qix a.aA b.aA a.aC b.aC a.ats b.ats _ _ W (ha.next h).ra (hb.next h).ra (by have:=ha.sa;omega) (by have:=hb.sa;omega))
 have HM:=hI (fun W (h:Below w.heap.size w W)=>qiy a.mA b.mA a.mC b.mC a.mks b.mks _ _ W (ha.next h).rm (hb.next h).rm (by have:=ha.sm;omega) (by have:=hb.sm;omega))
 unfold msgV
 have hsn:=@qvc a.pay b.pay
 have hdpay:decide (a.pay=b.pay)=true:=by simp [hpay]
 have hdats:decide (a.ats=b.ats)=true:=by simp [hats]
 have hdmks:decide (a.mks=b.mks)=false:=by simp [hmks]
 rw [hdpay] at hsn
 rw [hdats] at HA
 rw [hdmks] at HM
 have HS:Hid (qfy a b=false):=by show _=_;unfold qfy;simp [hmks]
 rw [HS.out]
 clear hpay hdpay hats hdats hmks hdmks ha hb
 go_enter Tryz.func165,Tryz.ntmps165
 go_wp2_with (first | (go_at_call 176;refine (HA.out _ (qab (bel1 w _) _)).mono ?_;rintro e w1 ⟨rfl,hb1⟩;have k1:w1.cell? ⟨w.heap.size,12,none⟩=some (.slice a.mA a.mks.size a.mC):=(hb1.cell (p:=⟨w.heap.size,12,none⟩) (by simp;omega)).trans (by simp);have k2:w1.cell? ⟨w.heap.size + 1,12,none⟩=some (.slice b.mA b.mks.size b.mC):=(hb1.cell (p:=⟨w.heap.size + 1,12,none⟩) (by simp)).trans (by simp);have HB1:=hI (qad (qab (bel1 w _) _) hb1);clear hb1) | (go_at_call 177;refine (HM.out _ HB1.out).mono ?_;rintro e w2 ⟨rfl,hb2⟩;have HB2:=hI (qad HB1.out hb2);clear hb2))
 all_goals go_ret
 all_goals first
  | exact ⟨rfl,HB2.out⟩
  | exact ⟨rfl,qab (bel1 w _) _⟩
set_option maxRecDepth 100000 in
set_option maxHeartbeats 4000000 in
theorem Same_3 (a b:PM) (w:World) (ha:RdM w a) (hb:RdM w b) (hpay:a.pay=b.pay) (hats:¬ a.ats=b.ats) :
 Calls Tryz.prog 165 #[msgV a,msgV b] w fun e w'=>e=.returned (.bool (qfy a b))∧Below w.heap.size w w':=by
 have HA:=hI (fun W (h:Below w.heap.size w W)=>qix a.aA b.aA a.aC b.aC a.ats b.ats _ _ W (ha.next h).ra (hb.next h).ra (by have:=ha.sa;omega) (by have:=hb.sa;omega))
 have HM:=hI (fun W (h:Below w.heap.size w W)=>qiy a.mA b.mA a.mC b.mC a.mks b.mks _ _ W (ha.next h).rm (hb.next h).rm (by have:=ha.sm;omega) (by have:=hb.sm;omega))
 unfold msgV
 have hsn:=@qvc a.pay b.pay
 have hdpay:decide (a.pay=b.pay)=true:=by simp [hpay]
 have hdats:decide (a.ats=b.ats)=false:=by simp [hats]
 rw [hdpay] at hsn
 rw [hdats] at HA
 have HS:Hid (qfy a b=false):=by show _=_;unfold qfy;simp [hats]
 rw [HS.out]
 clear hpay hdpay hats hdats ha hb HM
 go_enter Tryz.func165,Tryz.ntmps165
 go_wp2_with (go_at_call 176;refine (HA.out _ (qab (bel1 w _) _)).mono ?_;rintro e w1 ⟨rfl,hb1⟩;have k1:w1.cell? ⟨w.heap.size,12,none⟩=some (.slice a.mA a.mks.size a.mC):=(hb1.cell (p:=⟨w.heap.size,12,none⟩) (by simp;omega)).trans (by simp);have k2:w1.cell? ⟨w.heap.size + 1,12,none⟩=some (.slice b.mA b.mks.size b.mC):=(hb1.cell (p:=⟨w.heap.size + 1,12,none⟩) (by simp)).trans (by simp);have HB1:=hI (qad (qab (bel1 w _) _) hb1);clear hb1)
 all_goals go_ret
 all_goals first
  | exact ⟨rfl,HB1.out⟩
  | exact ⟨rfl,qab (bel1 w _) _⟩
set_option maxRecDepth 100000 in
set_option maxHeartbeats 4000000 in
theorem Same_4 (a b:PM) (w:World) (hpay:¬ a.pay=b.pay) :
 Calls Tryz.prog 165 #[msgV a,msgV b] w fun e w'=>e=.returned (.bool (qfy a b))∧Below w.heap.size w w':=by
 unfold msgV
 have hsn:=@qvc a.pay b.pay
 have hdpay:decide (a.pay=b.pay)=false:=by simp [hpay]
 rw [hdpay] at hsn
 have HS:Hid (qfy a b=false):=by show _=_;unfold qfy;simp [hpay]
 rw [HS.out]
 clear hpay hdpay
 go_enter Tryz.func165,Tryz.ntmps165
 go_wp2
 all_goals go_ret
 all_goals exact ⟨rfl,qab (bel1 w _) _⟩
theorem Same_any (a b:PM) (w:World) (ha:RdM w a) (hb:RdM w b) :
 Calls Tryz.prog 165 #[msgV a,msgV b] w fun e w'=>e=.returned (.bool (qfy a b))∧Below w.heap.size w w':=by
 by_cases hp:a.pay=b.pay
 ·by_cases hat:a.ats=b.ats
  ·by_cases hmk:a.mks=b.mks
   ·exact Same_1 a b w ha hb hp hat hmk
   ·exact Same_2 a b w ha hb hp hat hmk
  ·exact Same_3 a b w ha hb hp hat
 ·exact Same_4 a b w hp
end Go.Proofs.YtjkecckndfcbjaaGreatDoor
