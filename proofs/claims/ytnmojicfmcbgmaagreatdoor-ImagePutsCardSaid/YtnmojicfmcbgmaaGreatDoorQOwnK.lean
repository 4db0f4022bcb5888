/- Texts that the law leans on. -/
import Derived.Laws.AppendOwnNone
import Derived.Laws.OwnMore
import Derived.OwnWalk
import Derived.Test.YtnmojicfmcbgmaaGreatDoorQRead
import Derived.Maps.OwnOps
import Derived.Maps.Views
import Derived.Test.YtnmojicfmcbgmaaGreatDoorQBase
namespace Go.Proofs.YtnmojicfmcbgmaaGreatDoor
open Go.RowKit Go.Sort Go.Lib
section
variable {α:Type} [Inhabited α] {enc:α→List Value} {k:Nat} {w w':World} {A:Option Addr} {d:Array α} {B base:Nat} {e:TypeId} {v:Value}
theorem qrd (enc:α→List Value) (k:Nat) (d:Array α) (t:Nat) (h:t < d.size * k):(flatK enc k d).toList[t]?=some (enc d[t / k]!)[t % k]!:=by
 have hs:t < (flatK enc k d).size:=by rw [size_flatK];exact h
 rw [Array.getElem?_toList,Array.getElem?_eq_getElem hs,←get_flatK enc k d t h,getElem!_pos _ t hs]
theorem qcr (hk:∀ x,(enc x).length=k) (d:Array α) (x:α):(flatK enc k (d.push x)).toList=(flatK enc k d).toList ++ enc x:=by
 apply List.ext_getElem?
 intro t
 have hm:(d.size + 1) * k=d.size * k + k:=by rw [Nat.add_mul,Nat.one_mul]
 rcases Nat.lt_or_ge t (d.size * k) with h1 | h1
 ·rw [List.getElem?_append_left (by simpa using h1),qrd _ _ _ _ h1,qrd _ _ _ _ (by rw [Array.size_push,hm];omega)]
  have hq:t / k < d.size:=by
   rw [Nat.mul_comm] at h1
   exact Nat.div_lt_of_lt_mul h1
  have e1:(d.push x)[t / k]! = d[t / k]!:=by
   rw [getElem!_pos (d.push x) _ (by simp;omega),getElem!_pos d _ hq,Array.getElem_push_lt]
  rw [e1]
 ·rw [List.getElem?_append_right (by simpa using h1)]
  have hl:(flatK enc k d).toList.length=d.size * k:=by simp
  rw [hl]
  rcases Nat.lt_or_ge t (d.size * k + k) with h2 | h2
  ·obtain ⟨c,rfl⟩:∃ c,t=d.size * k + c:=⟨t - d.size * k,by omega⟩
   have hc:c < k:=by omega
   have hs:d.size * k + c < (flatK enc k (d.push x)).size:=by simp [hm];omega
   rw [Array.getElem?_toList,Array.getElem?_eq_getElem hs,←getElem!_pos (flatK enc k (d.push x)) _ hs,qpd _ _ _ _ _ (by simp) hc]
   have e1:(d.push x)[d.size]! = x:=by rw [getElem!_pos (d.push x) d.size (by simp)];simp
   rw [e1,Nat.add_sub_cancel_left,List.getElem!_eq_getElem?_getD,List.getElem?_eq_getElem (by rw [hk];exact hc)]
   rfl
  ·rw [List.getElem?_eq_none (by simp [hm];omega),List.getElem?_eq_none (by rw [hk];omega)]
theorem qjy (hk:∀ x,(enc x).length=k) (d:Array α):∀ l:List α,(flatK enc k (d ++ l.toArray)).toList=(flatK enc k d).toList ++ l.flatMap enc
 | []=>by simp
 | x :: l=>by
   have:=qjy hk (d.push x) l
   have e1:d ++ (x :: l).toArray=d.push x ++ l.toArray:=by apply Array.ext';simp
   rw [e1,this,qcr hk,List.flatMap_cons,List.append_assoc]
theorem qre (enc:α→List Value) (k:Nat):(flatK enc k #[]).toList=[]:=by simp [flatK]
theorem qge (hk:∀ x,(enc x).length=k) (d:Array α):(flatK enc k d).toList=d.toList.flatMap enc:=by
 have:=qjy hk #[] d.toList
 simpa [qre] using this
theorem qrf (hk:∀ x,(enc x).length=k) (a b:Array α):(flatK enc k (a ++ b)).toList=(flatK enc k a).toList ++ (flatK enc k b).toList:=by
 have:=qjy hk a b.toList
 rw [qge hk b]
 simpa using this
theorem qid (h:w.ownsRow base e k v d.size (flatK enc k d).toList) :
 ∃ A c,v=.slice A d.size c∧RdK enc k w.heap.size w A d∧(A=none→c=0):=by
 by_cases hn:v=.slice none 0 0
 ·subst hn
  obtain ⟨_,⟨_,h0⟩ | ⟨g,cap,cur,hv,_⟩⟩:=h
  ·exact ⟨none,0,by rw [h0],fun h=>absurd h0 (by omega),fun _=>rfl⟩
  ·cases hv
 ·obtain ⟨g,cap,hv,_,hlt,hH⟩:=qjh h hn
  exact ⟨_,cap,hv,RdK.of_holds hH hlt,fun h=>by cases h⟩
theorem qda (w:World) (base:Nat) (e:TypeId) (enc:α→List Value) (k:Nat):w.ownsRow base e k (.slice none 0 0) (#[]:Array α).size (flatK enc k #[]).toList:=by
 rw [qre]
 exact World.ownsRow_nil w base e k
end
end Go.Proofs.YtnmojicfmcbgmaaGreatDoor
namespace Go.Proofs.YtnmojicfmcbgmaaGreatDoor
open Go.RowKit Go.Sort
def encI (x:Int):Value:=.int .i64 x
def RdI (B:Nat) (w:World) (A:Option Addr) (d:Array Int):Prop :=
 0 < d.size→∃ b off,A=some ⟨b,off,none⟩∧b < B∧∀ i,i < d.size→w.cell? ⟨b,off + i,none⟩=some (.int .i64 d[i]!)
section
variable {w w':World} {A:Option Addr} {d:Array Int} {B:Nat}
theorem RdI.below (h:RdI B w A d) (hb:Below B w w'):RdI B w' A d:=fun h0=>by
 obtain ⟨b,off,e,hlt,hc⟩:=h h0
 exact ⟨b,off,e,hlt,fun t ht=>(hb.cell (p:=⟨b,off + t,none⟩) hlt).trans (hc t ht)⟩
theorem RdI.mono {B':Nat} (h:RdI B w A d) (hB:B≤B'):RdI B' w A d:=fun h0=>by
 obtain ⟨b,off,e,hlt,hc⟩:=h h0
 exact ⟨b,off,e,by omega,hc⟩
theorem RdI.next (h:RdI w.heap.size w A d) (hb:Below w.heap.size w w'):RdI w'.heap.size w' A d:=(h.below hb).mono hb.size
theorem RdI.alloc (h:RdI B w A d) (hB:B≤w.heap.size) (o:Obj):RdI B (w.alloc o) A d:=h.below ((Below.refl _ _).alloc hB o)
theorem RdI.at_ (h:RdI B w A d) {i:Nat} (hi:i < d.size):∃ b off,A=some ⟨b,off,none⟩∧b < B∧w.cell? ⟨b,off + i,none⟩=some (.int .i64 d[i]!):=by
 obtain ⟨b,off,e,hlt,hc⟩:=h (by omega)
 exact ⟨b,off,e,hlt,hc i hi⟩
theorem RdI.grown (h:RdI w.heap.size w A d) {g:Nat} (hg:w.grownBy w' (some g)) (hne:∀ a,A=some a→a.block≠g):RdI w'.heap.size w' A d:=fun h0=>by
 obtain ⟨b,off,e,hlt,hc⟩:=h h0
 exact ⟨b,off,e,Nat.lt_of_lt_of_le hlt hg.size,fun t ht=>hg.cell (hc t ht) (by intro e';injection e' with e';exact hne _ e e')⟩
theorem RdI.none_:RdI B w A #[]:=fun h=>absurd h (by decide)
theorem RdI.new (w:World) (d:Array Int) (e:TypeId) (cs:Array Value) (h:cs=d.map encI):RdI (w.heap.size + 1) (w.alloc (.cells cs e)) (some ⟨w.heap.size,0,none⟩) d:=fun _ =>
 ⟨_,_,rfl,Nat.lt_succ_self _,fun i hi=>by
  rw [qco,Nat.zero_add,h,Array.getElem?_map,Array.getElem?_eq_getElem hi,getElem!_pos _ i hi];rfl⟩
theorem RdI.of_owns {base:Nat} {e:TypeId} {v:Value} {xs:List Int} (h:w.ownsRow base e 1 v xs.length (xs.map (Value.int .i64))) :
 ∃ A c,v=.slice A xs.length c∧RdI w.heap.size w A xs.toArray∧((A=none→c=0)∧xs.length≤c)∧(∀ a,A=some a→base≤a.block):=by
 obtain ⟨_,⟨hv,h0⟩ | ⟨g,cap,cur,hv,hb,hh,hnc,hmx,hcur,htk⟩⟩:=h
 ·exact ⟨none,0,by rw [hv,h0],fun hh=>absurd hh (by simp;simpa using h0),⟨fun _=>rfl,Nat.le_of_eq h0⟩,fun _ h=>by cases h⟩
 ·have hlt:g < w.heap.size:=by
   rcases Nat.lt_or_ge g w.heap.size with h | h
   ·exact h
   ·rw [Array.getElem?_eq_none h] at hh;cases hh
  refine ⟨_,cap,hv,fun _=>⟨g,0,rfl,hlt,fun i hi=>?_⟩,⟨(fun h=>by cases h),hnc⟩,fun a h=>by injection h with h;subst h;exact hb⟩
  have hi':i < xs.length:=by simpa using hi
  have e1:cur.toList[i]?=(xs.map (Value.int .i64))[i]?:=by rw [←htk,List.getElem?_take_of_lt (by omega)]
  rw [Array.getElem?_toList] at e1
  simp only [World.cell?,hh,Nat.zero_add]
  rw [getElem!_pos xs.toArray i hi]
  simp [e1,hi']
end
end Go.Proofs.YtnmojicfmcbgmaaGreatDoor
namespace Go.Proofs.YtnmojicfmcbgmaaGreatDoor
open Go.RowKit Go.Sort Go.Lib Go.Maps
section
variable {H:Type} {P:Program} {w:World}
theorem qjf {e:TypeId} (he:P.underlying e=some .bool) {v:Value} {z:DataW H×List MemPlace} (h:plainElem P e v=some z):∃ x,v=.bool x∧z=(.lit (.bool x),[]):=by
 unfold plainElem at h
 rw [he] at h
 split at h
 ·cases h;exact ⟨_,rfl,rfl⟩
 ·rename_i h1;cases h1
 ·rename_i h1;cases h1
 ·cases h
theorem qmc {t e k:TypeId} {b n:Nat} {D:DataW H} (h:w.ownsMap P k (plainElem P e) b n D) (K:Keyed P k) (ht:P.underlying t=some (.map k e)) (he:P.underlying e=some .bool) (hz:(zeroValue e).run P w=.ok (.bool false) w)
 {key:Value} {kl:Lit} (hkey:keyOf P k key=some kl):∃ x,(Instr.lookup t (.map (some b)) key false).run P w=.ok (.bool x) w∧D.atKey kl (.lit (.bool false))=.lit (.bool x):=by
 obtain ⟨v,ps,hrun,hv⟩:=h.lookup K ht hz (plainElem_bool he false) hkey
 obtain ⟨x,rfl,hx⟩:=qjf he hv
 simp only [Prod.mk.injEq] at hx
 exact ⟨x,hrun,hx.1⟩
end
def qyr (ids:List Int):DataW Unit:=ids.foldl (fun D id=>D.put (.int .i64 id) (.lit (.bool true))) (.map [])
theorem isMap_put {D:DataW Unit} (h:IsMap D) (k:Lit) (d:DataW Unit):IsMap (D.put k d):=by
 obtain ⟨es,rfl⟩:=h
 exact ⟨_,rfl⟩
theorem qrg (id:Int) (hw:(Lit.int .i64 id).wf=true):∀ (ids:List Int) (D:DataW Unit),IsMap D→(ids.foldl (fun D id=>D.put (.int .i64 id) (.lit (.bool true))) D).atKey (.int .i64 id) (.lit (.bool false))=if ids.contains id=true then .lit (.bool true) else D.atKey (.int .i64 id) (.lit (.bool false))
 | [],D,_=>by simp
 | x :: r,D,hD=>by
   rw [List.foldl_cons,qrg id hw r _ (isMap_put hD _ _)]
   by_cases h:r.contains id=true
   ·rw [if_pos h,if_pos (by rw [List.contains_cons,h,Bool.or_true])]
   ·rw [if_neg h]
    by_cases hx:id=x
    ·subst hx
     rw [atKey_put_same hD (by first | exact hw | trivial | (unfold WideAt.IsKeyLit;simp)),if_pos (by simp)]
    ·rw [atKey_put_other (by intro e;injection e with _ e;exact hx e),if_neg]
     rw [List.contains_cons]
     simp only [Bool.or_eq_true,not_or]
     exact ⟨by simpa using hx,h⟩
theorem seen_at (ids:List Int) (id:Int) (hw:(Lit.int .i64 id).wf=true):(qyr ids).atKey (.int .i64 id) (.lit (.bool false))=.lit (.bool (ids.contains id)):=by
 unfold qyr
 rw [qrg id hw ids _ ⟨[],rfl⟩]
 cases h:ids.contains id
 ·rw [if_neg Bool.false_ne_true];rfl
 ·rw [if_pos rfl]
theorem seen_snoc (ids:List Int) (x:Int):qyr (ids ++ [x])=(qyr ids).put (.int .i64 x) (.lit (.bool true)):=by
 unfold qyr
 rw [List.foldl_append]
 rfl
end Go.Proofs.YtnmojicfmcbgmaaGreatDoor
namespace Go.Proofs.YtnmojicfmcbgmaaGreatDoor
open Go.RowKit Go.Sort Go.Lib Go.Maps
set_option maxRecDepth 100000
def qhs (now floor:Int) (d:Array (Int×Int)) (i:Nat):Bool :=
 decide (floor < d[i]!.1∧(0 < i→d[i - 1]!.1 < d[i]!.1)∧d[i]!.1≤now) && decide (10≤d[i]!.2∧d[i]!.2≤999999∧d[i]!.2 % 10≠0) && !((d.toList.take i).map Prod.snd).contains d[i]!.2
def clkB (now floor:Int) (d:Array (Int×Int)):Bool:=decide (0≤floor∧floor≤now∧now≤1000000) && (List.range d.size).all fun i=>qhs now floor d i
def clkE (now floor:Int) (d:Array (Int×Int)):Int:=if clkB now floor d=true then 0 else 2
theorem qpc {now floor:Int} {d:Array (Int×Int)}:clkB now floor d=true↔(0≤floor∧floor≤now∧now≤1000000)∧∀ i,i < d.size→qhs now floor d i=true:=by
 unfold clkB
 rw [Bool.and_eq_true,decide_eq_true_eq,List.all_eq_true]
 constructor
 ·rintro ⟨h,g⟩;exact ⟨h,fun i hi=>g i (List.mem_range.2 hi)⟩
 ·rintro ⟨h,g⟩;exact ⟨h,fun i hi=>g i (List.mem_range.1 hi)⟩
theorem qvu {now floor:Int} {d:Array (Int×Int)} (h:0≤floor∧floor≤now∧now≤1000000) (g:∀ i,i < d.size→qhs now floor d i=true):clkE now floor d=0:=by
 unfold clkE;rw [if_pos (qpc.2 ⟨h,g⟩)]
theorem clkE_no {now floor:Int} {d:Array (Int×Int)} (i:Nat) (hi:i < d.size) (h:qhs now floor d i=false):clkE now floor d=2:=by
 unfold clkE
 rw [if_neg]
 intro hc
 rw [(qpc.1 hc).2 i hi] at h
 cases h
theorem qvv {now floor:Int} {d:Array (Int×Int)} (h:¬ (0≤floor∧floor≤now∧now≤1000000)):clkE now floor d=2:=by
 unfold clkE
 rw [if_neg]
 intro hc
 exact h (qpc.1 hc).1
def qgf (floor:Int) (d:Array (Int×Int)) (k:Nat):Int:=if k=0 then floor else d[k - 1]!.1
def idsU (d:Array (Int×Int)) (k:Nat):List Int:=(d.toList.take k).map Prod.snd
theorem idsU_succ {d:Array (Int×Int)} {k:Nat} (h:k < d.size):idsU d (k + 1)=idsU d k ++ [d[k]!.2]:=by
 unfold idsU
 rw [List.take_add_one,List.map_append,List.getElem?_eq_getElem (by simpa using h)]
 simp [getElem!_pos d k h]
theorem qhk {d:Array (Int×Int)} {k:Nat} (h:k≤d.size) {n:Int}:(idsU d k).contains n=true↔∃ j,j < k∧d[j]!.2=n:=by
 unfold idsU
 rw [List.contains_iff_mem,List.mem_map]
 constructor
 ·rintro ⟨x,hx,rfl⟩
  obtain ⟨j,hj,e⟩:=List.mem_iff_getElem.1 hx
  have hj':j < k∧j < d.size:=by simp at hj;omega
  refine ⟨j,hj'.1,?_⟩
  rw [getElem!_pos d j hj'.2,←e]
  simp
 ·rintro ⟨j,hj,rfl⟩
  refine ⟨d[j]!,List.mem_iff_getElem.2 ⟨j,by simp;omega,?_⟩,rfl⟩
  rw [getElem!_pos d j (by omega)]
  simp
theorem qvw {now floor:Int} {d:Array (Int×Int)} {k:Nat} (_hk:k < d.size) (hall:∀ j,j < k→qhs now floor d j=true) :
 qhs now floor d k=(decide (qgf floor d k < d[k]!.1∧d[k]!.1≤now) && decide (10≤d[k]!.2∧d[k]!.2≤999999∧d[k]!.2 % 10≠0) && !(idsU d k).contains d[k]!.2):=by
 have hl:decide (floor < d[k]!.1∧(0 < k→d[k - 1]!.1 < d[k]!.1)∧d[k]!.1≤now)=decide (qgf floor d k < d[k]!.1∧d[k]!.1≤now):=by
  unfold qgf
  rcases Nat.eq_zero_or_pos k with h | h
  ·subst h;simp
  ·rw [if_neg (by omega)]
   have hp:=hall (k - 1) (by omega)
   unfold qhs at hp
   simp only [Bool.and_eq_true,decide_eq_true_eq] at hp
   have h1:=hp.1.1.1
   congr 1
   apply propext
   constructor
   ·rintro ⟨_,b,c⟩;exact ⟨b h,c⟩
   ·rintro ⟨b,c⟩;exact ⟨by omega,fun _=>b,c⟩
 show (decide _ && decide _ && !(idsU d k).contains d[k]!.2)=_
 rw [hl]
end Go.Proofs.YtnmojicfmcbgmaaGreatDoor
