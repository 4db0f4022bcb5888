/- Texts that the law leans on. -/
import Derived.Laws.AppendOwnNone
import Derived.Laws.OwnMore
import Derived.OwnWalk
import Derived.Test.YtlkmagmdhopcjaaGreatMRead
import Derived.Maps.OwnOps
import Derived.Maps.Views
import Derived.Test.YtlkmagmdhopcjaaGreatMBase
import Derived.Laws.StructEq
import Derived.Lib.Strings
namespace Go.Proofs.YtlkmagmdhopcjaaGreat
open Go.RowKit Go.Sort Go.Lib
section
variable {α:Type} [Inhabited α] {enc:α→List Value} {k:Nat} {w w':World} {A:Option Addr} {d:Array α} {B base:Nat} {e:TypeId} {v:Value}
theorem qhe (enc:α→List Value) (k:Nat) (d:Array α) (t:Nat) (h:t < d.size * k):(flatK enc k d).toList[t]?=some (enc d[t / k]!)[t % k]!:=by
 have hs:t < (flatK enc k d).size:=by rw [size_flatK];exact h
 rw [Array.getElem?_toList,Array.getElem?_eq_getElem hs,←get_flatK enc k d t h,getElem!_pos _ t hs]
theorem qbm (hk:∀ x,(enc x).length=k) (d:Array α) (x:α):(flatK enc k (d.push x)).toList=(flatK enc k d).toList ++ enc x:=by
 apply List.ext_getElem?
 intro t
 have hm:(d.size + 1) * k=d.size * k + k:=by rw [Nat.add_mul,Nat.one_mul]
 rcases Nat.lt_or_ge t (d.size * k) with h1 | h1
 ·rw [List.getElem?_append_left (by simpa using h1),qhe _ _ _ _ h1,qhe _ _ _ _ (by rw [Array.size_push,hm];omega)]
  have hq:t / k < d.size:=by
   rw [Nat.mul_comm] at h1
   exact Nat.div_lt_of_lt_mul h1
  have e1:(d.push x)[t / k]! = d[t / k]!:=by
   rw [getElem!_pos (d.push x) _ (by simp;omega),getElem!_pos d _ hq,Array.getElem_push_lt]
  rw [e1]
 ·rw [List.getElem?_append_right (by simpa using h1)]
  have hl:(flatK enc k d).toList.length=d.size * k:=by simp
  rw [hl]
  rcases Nat.lt_or_ge t (d.size * k + k) with h2 | h2
  ·obtain ⟨c,rfl⟩:∃ c,t=d.size * k + c:=⟨t - d.size * k,by omega⟩
   have hc:c < k:=by omega
   have hs:d.size * k + c < (flatK enc k (d.push x)).size:=by simp [hm];omega
   rw [Array.getElem?_toList,Array.getElem?_eq_getElem hs,←getElem!_pos (flatK enc k (d.push x)) _ hs,qhi _ _ _ _ _ (by simp) hc]
   have e1:(d.push x)[d.size]! = x:=by rw [getElem!_pos (d.push x) d.size (by simp)];simp
   rw [e1,Nat.add_sub_cancel_left,List.getElem!_eq_getElem?_getD,List.getElem?_eq_getElem (by rw [hk];exact hc)]
   rfl
  ·rw [List.getElem?_eq_none (by simp [hm];omega),List.getElem?_eq_none (by rw [hk];omega)]
theorem qkd (hk:∀ x,(enc x).length=k) (d:Array α):∀ l:List α,(flatK enc k (d ++ l.toArray)).toList=(flatK enc k d).toList ++ l.flatMap enc
 | []=>by simp
 | x :: l=>by
   have:=qkd hk (d.push x) l
   have e1:d ++ (x :: l).toArray=d.push x ++ l.toArray:=by apply Array.ext';simp
   rw [e1,this,qbm hk,List.flatMap_cons,List.append_assoc]
theorem qgf (enc:α→List Value) (k:Nat):(flatK enc k #[]).toList=[]:=by simp [flatK]
theorem qcm (hk:∀ x,(enc x).length=k) (d:Array α):(flatK enc k d).toList=d.toList.flatMap enc:=by
 have:=qkd hk #[] d.toList
 simpa [qgf] using this
theorem qrj (hk:∀ x,(enc x).length=k) (a b:Array α):(flatK enc k (a ++ b)).toList=(flatK enc k a).toList ++ (flatK enc k b).toList:=by
 have:=qkd hk a b.toList
 rw [qcm hk b]
 simpa using this
theorem qaw (h:w.ownsRow base e k v d.size (flatK enc k d).toList) :
 ∃ A c,v=.slice A d.size c∧RdK enc k w.heap.size w A d∧(A=none→c=0):=by
 by_cases hn:v=.slice none 0 0
 ·subst hn
  obtain ⟨_,⟨_,h0⟩ | ⟨g,cap,cur,hv,_⟩⟩:=h
  ·exact ⟨none,0,by rw [h0],fun h=>absurd h0 (by omega),fun _=>rfl⟩
  ·cases hv
 ·obtain ⟨g,cap,hv,_,hlt,hH⟩:=qbo h hn
  exact ⟨_,cap,hv,RdK.of_holds hH hlt,fun h=>by cases h⟩
theorem qvg (h1:∀ x,∀ u ∈ enc x,u.oneCell'=true) (hk:∀ x,(enc x).length=k):∀ u ∈ (flatK enc k d).toList,u.oneCell'=true:=by
 intro u hu
 rw [qcm hk,List.mem_flatMap] at hu
 obtain ⟨x,_,hx⟩:=hu
 exact h1 x u hx
theorem qfg {P:Program} {ops:Array Oper} {rest:List Oper} {o:Oper} {a:Act} {Q:Exit→Act→World→Prop} (h1:∀ x,∀ u ∈ enc x,u.oneCell'=true) (hk:∀ x,(enc x).length=k) (hk0:0 < k)
 (hgd:o.guard=none) (s x:Operand) (t:TypeId) (ho:o.op=.call { callee:=.builtin .append,args:=#[s,x],argTypes:=#[t,t] })
 (base:Nat) (e:TypeId) (i:TypeInfo) (z:Value) (bytes:Nat) (ht:P.underlying t=some (.slice e)) (hi:P.info? e=some i) (hz:i.zero=some z) (hsize:i.size=k) (hby:i.bytes=bytes) (hzs:z.cells.size=k)
 (v:Value) (d0:Array α) (hs:a.eval s=v) (hown:w.ownsRow base e k v d0.size (flatK enc k d0).toList) (B:Nat) (A:Option Addr) (c:Nat) (d:Array α) (hx:a.eval x=.slice A d.size c) (hr:RdK enc k B w A d) (hnil:A=none→c=0)
 (h63:d0.size + d.size≤100000000) (hbb:bytes≤100000) (hbase:base≤w.heap.size)
 (h:∀ v' w',w'.ownsRow base e k v' (d0 ++ d).size (flatK enc k (d0 ++ d)).toList→w.grownBy w' v.ownBlock→(v'=.slice none 0 0→v=.slice none 0 0)→wpList P ops Q rest (a.put o.dst v') w'):wpList P ops Q (o :: rest) a w:=by
 cases A with
 | none =>
   have h0:d.size=0:=by
    rcases Nat.eq_zero_or_pos d.size with h0 | h0
    ·exact h0
    ·obtain ⟨b,off,e,_⟩:=hr h0;cases e
   obtain rfl:d=#[]:=Array.eq_empty_of_size_eq_zero h0
   rw [hnil rfl] at hx
   exact wpList_append_own_none hgd s x t ho base e i k ht hi v d0.size _ hs hown hx (h v w (by simpa using hown) (World.grownBy.refl w _) id)
 | some ad =>
   refine wpList_append_own _ hgd s x t ho base e i z k bytes ht hi hz hsize hby hzs hk0 v d0.size _ hs hown ad d.size c (flatK enc k d).toList hx (by simp) ?_ (qvg h1 hk) (by unfold maxLen;omega) ?_ hbase fun v' w' h1 h2 h3=>h v' w' (by rw [qrj hk,Array.size_append];exact h1) h2 (fun e=>(h3.1 e).1)
   ·intro j u hj
    have hlt:j < d.size * k:=by
     rcases Nat.lt_or_ge j (d.size * k) with h' | h'
     ·exact h'
     ·rw [List.getElem?_eq_none (by simpa using h')] at hj;cases hj
    have hd0:0 < d.size:=by
     rcases Nat.eq_zero_or_pos d.size with h' | h'
     ·rw [h',Nat.zero_mul] at hlt;omega
     ·exact h'
    obtain ⟨b,off,e1,_,hc⟩:=hr hd0
    injection e1 with e1
    subst e1
    rw [Addr.add_lit,hc j hlt]
    rw [qhe _ _ _ _ hlt] at hj
    rw [get_flatK _ _ _ _ hlt]
    exact hj
   ·have:(d0.size + d.size) * bytes≤100000000 * 100000:=Nat.mul_le_mul h63 hbb
    omega
theorem qcc (w:World) (e:TypeId) (enc:α→List Value) (k:Nat):(w.alloc (.cells #[] e)).ownsRow w.heap.size e k (.slice (some ⟨w.heap.size,0,none⟩) (#[]:Array α).size 0) (#[]:Array α).size (flatK enc k #[]).toList:=by
 rw [qgf]
 exact World.ownsRow_made w #[] 0 (Nat.le_refl _) (Nat.zero_le _) (by simp)
theorem qci (w:World) (base:Nat) (e:TypeId) (enc:α→List Value) (k:Nat):w.ownsRow base e k (.slice none 0 0) (#[]:Array α).size (flatK enc k #[]).toList:=by
 rw [qgf]
 exact World.ownsRow_nil w base e k
end
end Go.Proofs.YtlkmagmdhopcjaaGreat
namespace Go.Proofs.YtlkmagmdhopcjaaGreat
open Go.RowKit Go.Sort Go.Lib Go.Maps
section
variable {H:Type} {P:Program} {w:World}
theorem qjm {e:TypeId} (he:P.underlying e=some .bool) {v:Value} {z:DataW H×List MemPlace} (h:plainElem P e v=some z):∃ x,v=.bool x∧z=(.lit (.bool x),[]):=by
 unfold plainElem at h
 rw [he] at h
 split at h
 ·cases h;exact ⟨_,rfl,rfl⟩
 ·rename_i h1;cases h1
 ·rename_i h1;cases h1
 ·cases h
theorem qmh {t e k:TypeId} {b n:Nat} {D:DataW H} (h:w.ownsMap P k (plainElem P e) b n D) (K:Keyed P k) (ht:P.underlying t=some (.map k e)) (he:P.underlying e=some .bool) (hz:(zeroValue e).run P w=.ok (.bool false) w)
 {key:Value} {kl:Lit} (hkey:keyOf P k key=some kl):∃ x,(Instr.lookup t (.map (some b)) key false).run P w=.ok (.bool x) w∧D.atKey kl (.lit (.bool false))=.lit (.bool x):=by
 obtain ⟨v,ps,hrun,hv⟩:=h.lookup K ht hz (plainElem_bool he false) hkey
 obtain ⟨x,rfl,hx⟩:=qjm he hv
 simp only [Prod.mk.injEq] at hx
 exact ⟨x,hrun,hx.1⟩
end
def qxu (ids:List Int):DataW Unit:=ids.foldl (fun D id=>D.put (.int .i64 id) (.lit (.bool true))) (.map [])
theorem isMap_put {D:DataW Unit} (h:IsMap D) (k:Lit) (d:DataW Unit):IsMap (D.put k d):=by
 obtain ⟨es,rfl⟩:=h
 exact ⟨_,rfl⟩
theorem qrk (id:Int) (hw:(Lit.int .i64 id).wf=true):∀ (ids:List Int) (D:DataW Unit),IsMap D→(ids.foldl (fun D id=>D.put (.int .i64 id) (.lit (.bool true))) D).atKey (.int .i64 id) (.lit (.bool false))=if ids.contains id=true then .lit (.bool true) else D.atKey (.int .i64 id) (.lit (.bool false))
 | [],D,_=>by simp
 | x :: r,D,hD=>by
   rw [List.foldl_cons,qrk id hw r _ (isMap_put hD _ _)]
   by_cases h:r.contains id=true
   ·rw [if_pos h,if_pos (by rw [List.contains_cons,h,Bool.or_true])]
   ·rw [if_neg h]
    by_cases hx:id=x
    ·subst hx
     rw [atKey_put_same hD (by first | exact hw | trivial | (unfold WideAt.IsKeyLit;simp)),if_pos (by simp)]
    ·rw [atKey_put_other (by intro e;injection e with _ e;exact hx e),if_neg]
     rw [List.contains_cons]
     simp only [Bool.or_eq_true,not_or]
     exact ⟨by simpa using hx,h⟩
theorem seen_at (ids:List Int) (id:Int) (hw:(Lit.int .i64 id).wf=true):(qxu ids).atKey (.int .i64 id) (.lit (.bool false))=.lit (.bool (ids.contains id)):=by
 unfold qxu
 rw [qrk id hw ids _ ⟨[],rfl⟩]
 cases h:ids.contains id
 ·rw [if_neg Bool.false_ne_true];rfl
 ·rw [if_pos rfl]
theorem seen_snoc (ids:List Int) (x:Int):qxu (ids ++ [x])=(qxu ids).put (.int .i64 x) (.lit (.bool true)):=by
 unfold qxu
 rw [List.foldl_append]
 rfl
end Go.Proofs.YtlkmagmdhopcjaaGreat
namespace Go.Proofs.YtlkmagmdhopcjaaGreat
open Go.RowKit Go.Sort Go.Lib Go.Maps
set_option maxRecDepth 100000
def qmi (now floor:Int) (d:Array (Int×Int)) (i:Nat):Bool :=
 decide (floor < d[i]!.1∧(0 < i→d[i - 1]!.1 < d[i]!.1)∧d[i]!.1≤now) && decide (10≤d[i]!.2∧d[i]!.2≤999999∧d[i]!.2 % 10≠0) && !((d.toList.take i).map Prod.snd).contains d[i]!.2
def clkB (now floor:Int) (d:Array (Int×Int)):Bool:=decide (0≤floor∧floor≤now∧now≤1000000) && (List.range d.size).all fun i=>qmi now floor d i
def clkE (now floor:Int) (d:Array (Int×Int)):Int:=if clkB now floor d=true then 0 else 2
theorem qir {now floor:Int} {d:Array (Int×Int)}:clkB now floor d=true↔(0≤floor∧floor≤now∧now≤1000000)∧∀ i,i < d.size→qmi now floor d i=true:=by
 unfold clkB
 rw [Bool.and_eq_true,decide_eq_true_eq,List.all_eq_true]
 constructor
 ·rintro ⟨h,g⟩;exact ⟨h,fun i hi=>g i (List.mem_range.2 hi)⟩
 ·rintro ⟨h,g⟩;exact ⟨h,fun i hi=>g i (List.mem_range.1 hi)⟩
theorem clkE_yes {now floor:Int} {d:Array (Int×Int)} (h:0≤floor∧floor≤now∧now≤1000000) (g:∀ i,i < d.size→qmi now floor d i=true):clkE now floor d=0:=by
 unfold clkE;rw [if_pos (qir.2 ⟨h,g⟩)]
theorem clkE_no {now floor:Int} {d:Array (Int×Int)} (i:Nat) (hi:i < d.size) (h:qmi now floor d i=false):clkE now floor d=2:=by
 unfold clkE
 rw [if_neg]
 intro hc
 rw [(qir.1 hc).2 i hi] at h
 cases h
theorem clkE_out {now floor:Int} {d:Array (Int×Int)} (h:¬ (0≤floor∧floor≤now∧now≤1000000)):clkE now floor d=2:=by
 unfold clkE
 rw [if_neg]
 intro hc
 exact h (qir.1 hc).1
def qtn (floor:Int) (d:Array (Int×Int)) (k:Nat):Int:=if k=0 then floor else d[k - 1]!.1
def idsU (d:Array (Int×Int)) (k:Nat):List Int:=(d.toList.take k).map Prod.snd
theorem idsU_succ {d:Array (Int×Int)} {k:Nat} (h:k < d.size):idsU d (k + 1)=idsU d k ++ [d[k]!.2]:=by
 unfold idsU
 rw [List.take_add_one,List.map_append,List.getElem?_eq_getElem (by simpa using h)]
 simp [getElem!_pos d k h]
theorem qvh {d:Array (Int×Int)} {k:Nat} (h:k≤d.size) {n:Int}:(idsU d k).contains n=true↔∃ j,j < k∧d[j]!.2=n:=by
 unfold idsU
 rw [List.contains_iff_mem,List.mem_map]
 constructor
 ·rintro ⟨x,hx,rfl⟩
  obtain ⟨j,hj,e⟩:=List.mem_iff_getElem.1 hx
  have hj':j < k∧j < d.size:=by simp at hj;omega
  refine ⟨j,hj'.1,?_⟩
  rw [getElem!_pos d j hj'.2,←e]
  simp
 ·rintro ⟨j,hj,rfl⟩
  refine ⟨d[j]!,List.mem_iff_getElem.2 ⟨j,by simp;omega,?_⟩,rfl⟩
  rw [getElem!_pos d j (by omega)]
  simp
theorem clkAt_eq {now floor:Int} {d:Array (Int×Int)} {k:Nat} (_hk:k < d.size) (hall:∀ j,j < k→qmi now floor d j=true) :
 qmi now floor d k=(decide (qtn floor d k < d[k]!.1∧d[k]!.1≤now) && decide (10≤d[k]!.2∧d[k]!.2≤999999∧d[k]!.2 % 10≠0) && !(idsU d k).contains d[k]!.2):=by
 have hl:decide (floor < d[k]!.1∧(0 < k→d[k - 1]!.1 < d[k]!.1)∧d[k]!.1≤now)=decide (qtn floor d k < d[k]!.1∧d[k]!.1≤now):=by
  unfold qtn
  rcases Nat.eq_zero_or_pos k with h | h
  ·subst h;simp
  ·rw [if_neg (by omega)]
   have hp:=hall (k - 1) (by omega)
   unfold qmi at hp
   simp only [Bool.and_eq_true,decide_eq_true_eq] at hp
   have h1:=hp.1.1.1
   congr 1
   apply propext
   constructor
   ·rintro ⟨_,b,c⟩;exact ⟨b h,c⟩
   ·rintro ⟨b,c⟩;exact ⟨by omega,fun _=>b,c⟩
 show (decide _ && decide _ && !(idsU d k).contains d[k]!.2)=_
 rw [hl]
end Go.Proofs.YtlkmagmdhopcjaaGreat
namespace Go.Proofs.YtlkmagmdhopcjaaGreat
open Go.RowKit Go.Sort
def encI (x:Int):Value:=.int .i64 x
def RdI (B:Nat) (w:World) (A:Option Addr) (d:Array Int):Prop :=
 0 < d.size→∃ b off,A=some ⟨b,off,none⟩∧b < B∧∀ i,i < d.size→w.cell? ⟨b,off + i,none⟩=some (.int .i64 d[i]!)
section
variable {w w':World} {A:Option Addr} {d:Array Int} {B:Nat}
theorem RdI.below (h:RdI B w A d) (hb:Below B w w'):RdI B w' A d:=fun h0=>by
 obtain ⟨b,off,e,hlt,hc⟩:=h h0
 exact ⟨b,off,e,hlt,fun t ht=>(hb.cell (p:=⟨b,off + t,none⟩) hlt).trans (hc t ht)⟩
theorem RdI.mono {B':Nat} (h:RdI B w A d) (hB:B≤B'):RdI B' w A d:=fun h0=>by
 obtain ⟨b,off,e,hlt,hc⟩:=h h0
 exact ⟨b,off,e,by omega,hc⟩
theorem RdI.next (h:RdI w.heap.size w A d) (hb:Below w.heap.size w w'):RdI w'.heap.size w' A d:=(h.below hb).mono hb.size
theorem RdI.alloc (h:RdI B w A d) (hB:B≤w.heap.size) (o:Obj):RdI B (w.alloc o) A d:=h.below ((Below.refl _ _).alloc hB o)
theorem RdI.at_ (h:RdI B w A d) {i:Nat} (hi:i < d.size):∃ b off,A=some ⟨b,off,none⟩∧b < B∧w.cell? ⟨b,off + i,none⟩=some (.int .i64 d[i]!):=by
 obtain ⟨b,off,e,hlt,hc⟩:=h (by omega)
 exact ⟨b,off,e,hlt,hc i hi⟩
theorem RdI.grown (h:RdI w.heap.size w A d) {g:Nat} (hg:w.grownBy w' (some g)) (hne:∀ a,A=some a→a.block≠g):RdI w'.heap.size w' A d:=fun h0=>by
 obtain ⟨b,off,e,hlt,hc⟩:=h h0
 exact ⟨b,off,e,Nat.lt_of_lt_of_le hlt hg.size,fun t ht=>hg.cell (hc t ht) (by intro e';injection e' with e';exact hne _ e e')⟩
theorem RdI.none_:RdI B w A #[]:=fun h=>absurd h (by decide)
theorem RdI.new (w:World) (d:Array Int) (e:TypeId) (cs:Array Value) (h:cs=d.map encI):RdI (w.heap.size + 1) (w.alloc (.cells cs e)) (some ⟨w.heap.size,0,none⟩) d:=fun _ =>
 ⟨_,_,rfl,Nat.lt_succ_self _,fun i hi=>by
  rw [qbb,Nat.zero_add,h,Array.getElem?_map,Array.getElem?_eq_getElem hi,getElem!_pos _ i hi];rfl⟩
end
end Go.Proofs.YtlkmagmdhopcjaaGreat
namespace Go.Proofs.YtlkmagmdhopcjaaGreat
open Go.RowKit Go.Sort Go.Lib
def encA (x:Int×Int):List Value:=[.int .i64 x.1,.int .i64 x.2]
theorem attGuard:Tryz.prog.eqGuardType Tryz.prog.depth 29 = false:=by kernel_rfl
theorem neA_run (x y:Int×Int) (w:World):(binOp .neq 29 (.agg #[.int .i64 x.1,.int .i64 x.2]) (.agg #[.int .i64 y.1,.int .i64 y.2])).run Tryz.prog w=.ok (.bool (!decide (x=y))) w:=by
 have hS:Tryz.prog.underlying 29 = some (.struct (Tryz.prog.fieldsOf 29)):=by kernel_rfl
 have hp:Tryz.prog.stoodInHeld 29 = false:=by kernel_rfl
 have u3:=Tryz.underlying3
 rw [run_neq_struct,show (10000:Nat)=9999 + 1 from rfl,run_equalIn_agg w 9999 29 _ _ hS hp]
 simp only [Program.fieldsOf,Tryz.underlying29]
 go_simp
 obtain ⟨x1,x2⟩:=x
 obtain ⟨y1,y2⟩:=y
 by_cases h1:x1=y1 <;> by_cases h2:x2=y2 <;> simp [h1,h2]
theorem arr_ext {α:Type} [Inhabited α] {d1 d2:Array α} (hs:d1.size=d2.size) (h:∀ j,j < d1.size→d1[j]! = d2[j]!):d1=d2 :=
 Array.ext hs fun t h1 h2=>by have:=h t h1;rwa [getElem!_pos d1 t h1,getElem!_pos d2 t h2] at this
theorem RdK.next {α:Type} [Inhabited α] {enc:α→List Value} {k:Nat} {w w':World} {A:Option Addr} {d:Array α} (h:RdK enc k w.heap.size w A d) (hb:Below w.heap.size w w'):RdK enc k w'.heap.size w' A d:=(h.below hb).mono hb.size
set_option maxHeartbeats 1000000 in
theorem EqAtts0 (A1 A2:Option Addr) (c1 c2:Nat) (d1 d2:Array (Int×Int)) (B1 B2:Nat) (w:World) (h1:RdK encA 2 B1 w A1 d1) (h2:RdK encA 2 B2 w A2 d2) (_hn:d1.size≤100000000) (hm:d2.size≤100000000) :
 Calls Tryz.prog 205 #[.slice A1 d1.size c1,.slice A2 d2.size c2] w fun e w'=>e=.returned (.bool (decide (d1=d2)))∧∃ n,w'=w.drewN n:=by
 by_cases hs:d1.size=d2.size
 ·have hb:((d1.size:Int) != (d2.size:Int))=false:=by simp [hs]
  have HS:=hI hs
  have hge:d1.size≤d2.size:=by omega
  clear hs
  go_enter Tryz.func205,Tryz.ntmps205
  go_wp2
  go_loopw [13] (fun i wr=>∃ k n:Nat,k≤d1.size∧i=.int .i64 k∧wr=w.drewN n∧∀ j,j < k→d1[j]! = d2[j]!) (fun i _=>d1.size - (intOf i).toNat)
  case atStart=>exact ⟨0,0,Nat.zero_le _,rfl,rfl,fun j hj=>absurd hj (by omega)⟩
  case round =>
   obtain ⟨k,n,hk,rfl,rfl,hj⟩:=hrel
   have HJ:=hI hj;clear hj
   by_cases hlt:k < d1.size
   ·obtain ⟨b1,o1,rfl,_,f1⟩:=h1.at_ hlt
    obtain ⟨b2,o2,rfl,_,f2⟩:=h2.at_ (i:=k) (by omega)
    have e10:=f1 0 (by omega)
    have e11:=f1 1 (by omega)
    have e20:=f2 0 (by omega)
    have e21:=f2 1 (by omega)
    have hnx:=neA_run d1[k]! d2[k]!
    have hgd:=attGuard
    generalize hx:d1[k]! = x at e10 e11 hnx
    generalize hy:d2[k]! = y at e20 e21 hnx
    have HXX:=hI hx;clear hx
    have HYY:=hI hy;clear hy
    simp only [Nat.add_zero,encA,List.getElem!_cons_zero,List.getElem!_cons_succ] at e10 e11 e20 e21
    clear f1 f2
    have kz:(k:Int) < (d1.size:Int):=by omega
    have kz2:(k:Int) < (d2.size:Int):=by omega
    by_cases hxy:x=y
    ·skip
     have hd:decide (x=y)=true:=by simp [hxy]
     have HXY:=hI hxy;clear hxy
     rw [hd] at hnx
     clear hd
     go_wp2
     go_quiet (fail)
     go_wp2
     go_roundw
     case rel=>exact ⟨k + 1,_,by omega,by go_num,rfl,fun j hj=>by
      rcases Nat.lt_or_ge j k with h | h
      ·exact HJ.out j h
      ·obtain rfl:j=k:=by omega
       rw [HXX.out,HYY.out];exact HXY.out⟩
     case measure=>simp [intOf];omega
    ·skip
     have hd:decide (x=y)=false:=by simp [hxy]
     have HXY:=hI hxy;clear hxy
     rw [hd] at hnx
     clear hd
     go_wp2
     go_quiet (fail)
     go_wp2
     go_ret
     exact ⟨qac (by symm;rw [decide_eq_false_iff_not];rintro rfl;exact HXY.out (by rw [←HXX.out,←HYY.out])),_,World.drewN_drewN _ _ _⟩
   ·go_wp2
    go_ret
    exact ⟨qac (by symm;rw [decide_eq_true_iff];exact arr_ext HS.out fun j hj=>HJ.out j (by omega)),n,rfl⟩
 ·have hb:((d1.size:Int) != (d2.size:Int))=true:=by simp;omega
  have HS:=hI hs
  clear hs
  go_enter Tryz.func205,Tryz.ntmps205
  go_wp2
  go_ret
  exact ⟨qac (by symm;rw [decide_eq_false_iff_not];rintro rfl;exact HS.out rfl),0,rfl⟩
theorem qke (A1 A2:Option Addr) (c1 c2:Nat) (d1 d2:Array (Int×Int)) (B1 B2:Nat) (w:World) (h1:RdK encA 2 B1 w A1 d1) (h2:RdK encA 2 B2 w A2 d2) (hn:d1.size≤100000000) (hm:d2.size≤100000000) :
 Calls Tryz.prog 205 #[.slice A1 d1.size c1,.slice A2 d2.size c2] w fun e w'=>e=.returned (.bool (decide (d1=d2)))∧Below w.heap.size w w' :=
 (EqAtts0 A1 A2 c1 c2 d1 d2 B1 B2 w h1 h2 hn hm).mono fun _ _ ⟨he,n,hw⟩=>⟨he,by rw [hw];exact qbc (Below.refl _ _) n⟩
set_option maxHeartbeats 1000000 in
theorem EqInts0 (A1 A2:Option Addr) (c1 c2:Nat) (d1 d2:Array Int) (B1 B2:Nat) (w:World) (h1:RdI B1 w A1 d1) (h2:RdI B2 w A2 d2) (_hn:d1.size≤100000000) (hm:d2.size≤100000000) :
 Calls Tryz.prog 206 #[.slice A1 d1.size c1,.slice A2 d2.size c2] w fun e w'=>e=.returned (.bool (decide (d1=d2)))∧∃ n,w'=w.drewN n:=by
 by_cases hs:d1.size=d2.size
 ·have hb:((d1.size:Int) != (d2.size:Int))=false:=by simp [hs]
  have HS:=hI hs
  have hge:d1.size≤d2.size:=by omega
  clear hs
  go_enter Tryz.func206,Tryz.ntmps206
  go_wp2
  go_loopw [13] (fun i wr=>∃ k n:Nat,k≤d1.size∧i=.int .i64 k∧wr=w.drewN n∧∀ j,j < k→d1[j]! = d2[j]!) (fun i _=>d1.size - (intOf i).toNat)
  case atStart=>exact ⟨0,0,Nat.zero_le _,rfl,rfl,fun j hj=>absurd hj (by omega)⟩
  case round =>
   obtain ⟨k,n,hk,rfl,rfl,hj⟩:=hrel
   have HJ:=hI hj;clear hj
   by_cases hlt:k < d1.size
   ·obtain ⟨b1,o1,rfl,_,e10⟩:=h1.at_ hlt
    obtain ⟨b2,o2,rfl,_,e20⟩:=h2.at_ (i:=k) (by omega)
    generalize hx:d1[k]! = x at e10
    generalize hy:d2[k]! = y at e20
    have HXX:=hI hx;clear hx
    have HYY:=hI hy;clear hy
    have kz:(k:Int) < (d1.size:Int):=by omega
    have kz2:(k:Int) < (d2.size:Int):=by omega
    by_cases hxy:x=y
    ·skip
     have hd:(x != y)=false:=by simp [hxy]
     have HXY:=hI hxy;clear hxy
     go_wp2
     go_quiet (fail)
     go_wp2
     go_roundw
     case rel=>exact ⟨k + 1,_,by omega,by go_num,rfl,fun j hj=>by
      rcases Nat.lt_or_ge j k with h | h
      ·exact HJ.out j h
      ·obtain rfl:j=k:=by omega
       rw [HXX.out,HYY.out];exact HXY.out⟩
     case measure=>simp [intOf];omega
    ·skip
     have hd:(x != y)=true:=by simp [hxy]
     have HXY:=hI hxy;clear hxy
     go_wp2
     go_quiet (fail)
     go_wp2
     go_ret
     exact ⟨qac (by symm;rw [decide_eq_false_iff_not];rintro rfl;exact HXY.out (by rw [←HXX.out,←HYY.out])),_,World.drewN_drewN _ _ _⟩
   ·go_wp2
    go_ret
    exact ⟨qac (by symm;rw [decide_eq_true_iff];exact arr_ext HS.out fun j hj=>HJ.out j (by omega)),n,rfl⟩
 ·have hb:((d1.size:Int) != (d2.size:Int))=true:=by simp;omega
  have HS:=hI hs
  clear hs
  go_enter Tryz.func206,Tryz.ntmps206
  go_wp2
  go_ret
  exact ⟨qac (by symm;rw [decide_eq_false_iff_not];rintro rfl;exact HS.out rfl),0,rfl⟩
theorem qhf (A1 A2:Option Addr) (c1 c2:Nat) (d1 d2:Array Int) (B1 B2:Nat) (w:World) (h1:RdI B1 w A1 d1) (h2:RdI B2 w A2 d2) (hn:d1.size≤100000000) (hm:d2.size≤100000000) :
 Calls Tryz.prog 206 #[.slice A1 d1.size c1,.slice A2 d2.size c2] w fun e w'=>e=.returned (.bool (decide (d1=d2)))∧Below w.heap.size w w' :=
 (EqInts0 A1 A2 c1 c2 d1 d2 B1 B2 w h1 h2 hn hm).mono fun _ _ ⟨he,n,hw⟩=>⟨he,by rw [hw];exact qbc (Below.refl _ _) n⟩
end Go.Proofs.YtlkmagmdhopcjaaGreat
namespace Go.Proofs.YtlkmagmdhopcjaaGreat
open Go.RowKit Go.Sort Go.Lib
structure PM where
 k:Int
 fr:Int
 id:Int
 t:Int
 bal:Int
 abal:Int
 ph:Int
 q:Int
 pay:ByteArray
 lo:Int
 hi:Int
 aA:Option Addr
 aC:Nat
 ats:Array (Int×Int)
 mA:Option Addr
 mC:Nat
 mks:Array Int
 dn:Int
def msgV (m:PM):Value:=.agg #[.int .i64 m.k,.int .i64 m.fr,.int .i64 m.id,.int .i64 m.t,.int .i64 m.bal,.int .i64 m.abal,.int .i64 m.ph,.int .i64 m.q,.string m.pay,.int .i64 m.lo,.int .i64 m.hi,.slice m.aA m.ats.size m.aC,.slice m.mA m.mks.size m.mC,.int .i64 m.dn]
def msgC (m:PM):Array Value:=#[.int .i64 m.k,.int .i64 m.fr,.int .i64 m.id,.int .i64 m.t,.int .i64 m.bal,.int .i64 m.abal,.int .i64 m.ph,.int .i64 m.q,.string m.pay,.int .i64 m.lo,.int .i64 m.hi,.slice m.aA m.ats.size m.aC,.slice m.mA m.mks.size m.mC,.int .i64 m.dn]
structure RdM (w:World) (m:PM):Prop where
 ra:RdK encA 2 w.heap.size w m.aA m.ats
 rm:RdI w.heap.size w m.mA m.mks
 sa:m.ats.size≤1000000
 sm:m.mks.size≤1000000
 sp:m.pay.size≤1000000
theorem RdM.next {w w':World} {m:PM} (h:RdM w m) (hb:Below w.heap.size w w'):RdM w' m:=⟨h.ra.next hb,h.rm.next hb,h.sa,h.sm,h.sp⟩
def qcr (a b:PM):Bool:=decide (a.k=b.k∧a.fr=b.fr∧a.id=b.id∧a.t=b.t∧a.bal=b.bal∧a.abal=b.abal∧a.ph=b.ph∧a.q=b.q∧a.pay=b.pay∧a.lo=b.lo∧a.hi=b.hi∧a.dn=b.dn∧a.ats=b.ats∧a.mks=b.mks)
theorem qvi {a b:ByteArray}:(a.toList == b.toList)=decide (a=b):=by
 by_cases h:a=b
 ·subst h;simp
 ·have:a.toList≠b.toList:=fun e=>h (by
   rw [Lib.toList_data,Lib.toList_data] at e
   exact ByteArray.ext (Array.ext' e))
  simp [h,this]
end Go.Proofs.YtlkmagmdhopcjaaGreat
namespace Go.Proofs.YtlkmagmdhopcjaaGreat
open Go.RowKit Go.Sort Go.Lib
set_option maxRecDepth 100000 in
set_option maxHeartbeats 4000000 in
theorem Same_1 (a b:PM) (w:World) (ha:RdM w a) (hb:RdM w b) (hpay:a.pay=b.pay) (hats:a.ats=b.ats) (hmks:a.mks=b.mks) :
 Calls Tryz.prog 140 #[msgV a,msgV b] w fun e w'=>e=.returned (.bool (qcr a b))∧Below w.heap.size w w':=by
 have HA:=hI (fun W (h:Below w.heap.size w W)=>qke a.aA b.aA a.aC b.aC a.ats b.ats _ _ W (ha.next h).ra (hb.next h).ra (by have:=ha.sa;omega) (by have:=hb.sa;omega))
 have HM:=hI (fun W (h:Below w.heap.size w W)=>qhf a.mA b.mA a.mC b.mC a.mks b.mks _ _ W (ha.next h).rm (hb.next h).rm (by have:=ha.sm;omega) (by have:=hb.sm;omega))
 unfold msgV
 have hsn:=@qvi a.pay b.pay
 have hdpay:decide (a.pay=b.pay)=true:=by simp [hpay]
 have hdats:decide (a.ats=b.ats)=true:=by simp [hats]
 have hdmks:decide (a.mks=b.mks)=true:=by simp [hmks]
 rw [hdpay] at hsn
 rw [hdats] at HA
 rw [hdmks] at HM
 have HS:Hid (qcr a b=decide (a.k=b.k∧a.fr=b.fr∧a.id=b.id∧a.t=b.t∧a.bal=b.bal∧a.abal=b.abal∧a.ph=b.ph∧a.q=b.q∧a.lo=b.lo∧a.hi=b.hi∧a.dn=b.dn)):=by show _=_;unfold qcr;simp [hpay,hats,hmks]
 clear hpay hdpay hats hdats hmks hdmks ha hb
 go_enter Tryz.func140,Tryz.ntmps140
 go_wp2_with (first | (go_at_call 205;refine (HA.out _ (qab (bel1 w _) _)).mono ?_;rintro e w1 ⟨rfl,hb1⟩;have k1:w1.cell? ⟨w.heap.size,12,none⟩=some (.slice a.mA a.mks.size a.mC):=(hb1.cell (p:=⟨w.heap.size,12,none⟩) (by simp;omega)).trans (by simp);have k2:w1.cell? ⟨w.heap.size + 1,12,none⟩=some (.slice b.mA b.mks.size b.mC):=(hb1.cell (p:=⟨w.heap.size + 1,12,none⟩) (by simp)).trans (by simp);have HB1:=hI (qaa (qab (bel1 w _) _) hb1);clear hb1) | (go_at_call 206;refine (HM.out _ HB1.out).mono ?_;rintro e w2 ⟨rfl,hb2⟩;have HB2:=hI (qaa HB1.out hb2);clear hb2))
 all_goals go_ret
 all_goals first
  | exact ⟨qac (by rw [HS.out];symm;rw [decide_eq_true_iff];exact ⟨by assumption,by assumption,by assumption,by assumption,by assumption,by assumption,by assumption,by assumption,by assumption,by assumption,by assumption⟩),HB2.out⟩
  | exact ⟨qac (by rw [HS.out];symm;rw [decide_eq_false_iff_not];rintro ⟨h1,h2,h3,h4,h5,h6,h7,h8,h9,h10,h11⟩;first | exact absurd h1 (by assumption) | exact absurd h2 (by assumption) | exact absurd h3 (by assumption) | exact absurd h4 (by assumption) | exact absurd h5 (by assumption) | exact absurd h6 (by assumption) | exact absurd h7 (by assumption) | exact absurd h8 (by assumption) | exact absurd h9 (by assumption) | exact absurd h10 (by assumption) | exact absurd h11 (by assumption)),qab (bel1 w _) _⟩
set_option maxRecDepth 100000 in
set_option maxHeartbeats 4000000 in
theorem Same_2 (a b:PM) (w:World) (ha:RdM w a) (hb:RdM w b) (hpay:a.pay=b.pay) (hats:a.ats=b.ats) (hmks:¬ a.mks=b.mks) :
 Calls Tryz.prog 140 #[msgV a,msgV b] w fun e w'=>e=.returned (.bool (qcr a b))∧Below w.heap.size w w':=by
 have HA:=hI (fun W (h:Below w.heap.size w W)=>qke a.aA b.aA a.aC b.aC a.ats b.ats _ _ W (ha.next h).ra (hb.next h).ra (by have:=ha.sa;omega) (by have:=hb.sa;omega))
 have HM:=hI (fun W (h:Below w.heap.size w W)=>qhf a.mA b.mA a.mC b.mC a.mks b.mks _ _ W (ha.next h).rm (hb.next h).rm (by have:=ha.sm;omega) (by have:=hb.sm;omega))
 unfold msgV
 have hsn:=@qvi a.pay b.pay
 have hdpay:decide (a.pay=b.pay)=true:=by simp [hpay]
 have hdats:decide (a.ats=b.ats)=true:=by simp [hats]
 have hdmks:decide (a.mks=b.mks)=false:=by simp [hmks]
 rw [hdpay] at hsn
 rw [hdats] at HA
 rw [hdmks] at HM
 have HS:Hid (qcr a b=false):=by show _=_;unfold qcr;simp [hmks]
 rw [HS.out]
 clear hpay hdpay hats hdats hmks hdmks ha hb
 go_enter Tryz.func140,Tryz.ntmps140
 go_wp2_with (first | (go_at_call 205;refine (HA.out _ (qab (bel1 w _) _)).mono ?_;rintro e w1 ⟨rfl,hb1⟩;have k1:w1.cell? ⟨w.heap.size,12,none⟩=some (.slice a.mA a.mks.size a.mC):=(hb1.cell (p:=⟨w.heap.size,12,none⟩) (by simp;omega)).trans (by simp);have k2:w1.cell? ⟨w.heap.size + 1,12,none⟩=some (.slice b.mA b.mks.size b.mC):=(hb1.cell (p:=⟨w.heap.size + 1,12,none⟩) (by simp)).trans (by simp);have HB1:=hI (qaa (qab (bel1 w _) _) hb1);clear hb1) | (go_at_call 206;refine (HM.out _ HB1.out).mono ?_;rintro e w2 ⟨rfl,hb2⟩;have HB2:=hI (qaa HB1.out hb2);clear hb2))
 all_goals go_ret
 all_goals first
  | exact ⟨rfl,HB2.out⟩
  | exact ⟨rfl,qab (bel1 w _) _⟩
set_option maxRecDepth 100000 in
set_option maxHeartbeats 4000000 in
theorem Same_3 (a b:PM) (w:World) (ha:RdM w a) (hb:RdM w b) (hpay:a.pay=b.pay) (hats:¬ a.ats=b.ats) :
 Calls Tryz.prog 140 #[msgV a,msgV b] w fun e w'=>e=.returned (.bool (qcr a b))∧Below w.heap.size w w':=by
 have HA:=hI (fun W (h:Below w.heap.size w W)=>qke a.aA b.aA a.aC b.aC a.ats b.ats _ _ W (ha.next h).ra (hb.next h).ra (by have:=ha.sa;omega) (by have:=hb.sa;omega))
 have HM:=hI (fun W (h:Below w.heap.size w W)=>qhf a.mA b.mA a.mC b.mC a.mks b.mks _ _ W (ha.next h).rm (hb.next h).rm (by have:=ha.sm;omega) (by have:=hb.sm;omega))
 unfold msgV
 have hsn:=@qvi a.pay b.pay
 have hdpay:decide (a.pay=b.pay)=true:=by simp [hpay]
 have hdats:decide (a.ats=b.ats)=false:=by simp [hats]
 rw [hdpay] at hsn
 rw [hdats] at HA
 have HS:Hid (qcr a b=false):=by show _=_;unfold qcr;simp [hats]
 rw [HS.out]
 clear hpay hdpay hats hdats ha hb HM
 go_enter Tryz.func140,Tryz.ntmps140
 go_wp2_with (go_at_call 205;refine (HA.out _ (qab (bel1 w _) _)).mono ?_;rintro e w1 ⟨rfl,hb1⟩;have k1:w1.cell? ⟨w.heap.size,12,none⟩=some (.slice a.mA a.mks.size a.mC):=(hb1.cell (p:=⟨w.heap.size,12,none⟩) (by simp;omega)).trans (by simp);have k2:w1.cell? ⟨w.heap.size + 1,12,none⟩=some (.slice b.mA b.mks.size b.mC):=(hb1.cell (p:=⟨w.heap.size + 1,12,none⟩) (by simp)).trans (by simp);have HB1:=hI (qaa (qab (bel1 w _) _) hb1);clear hb1)
 all_goals go_ret
 all_goals first
  | exact ⟨rfl,HB1.out⟩
  | exact ⟨rfl,qab (bel1 w _) _⟩
set_option maxRecDepth 100000 in
set_option maxHeartbeats 4000000 in
theorem Same_4 (a b:PM) (w:World) (hpay:¬ a.pay=b.pay) :
 Calls Tryz.prog 140 #[msgV a,msgV b] w fun e w'=>e=.returned (.bool (qcr a b))∧Below w.heap.size w w':=by
 unfold msgV
 have hsn:=@qvi a.pay b.pay
 have hdpay:decide (a.pay=b.pay)=false:=by simp [hpay]
 rw [hdpay] at hsn
 have HS:Hid (qcr a b=false):=by show _=_;unfold qcr;simp [hpay]
 rw [HS.out]
 clear hpay hdpay
 go_enter Tryz.func140,Tryz.ntmps140
 go_wp2
 all_goals go_ret
 all_goals exact ⟨rfl,qab (bel1 w _) _⟩
theorem Same_any (a b:PM) (w:World) (ha:RdM w a) (hb:RdM w b) :
 Calls Tryz.prog 140 #[msgV a,msgV b] w fun e w'=>e=.returned (.bool (qcr a b))∧Below w.heap.size w w':=by
 by_cases hp:a.pay=b.pay
 ·by_cases hat:a.ats=b.ats
  ·by_cases hmk:a.mks=b.mks
   ·exact Same_1 a b w ha hb hp hat hmk
   ·exact Same_2 a b w ha hb hp hat hmk
  ·exact Same_3 a b w ha hb hp hat
 ·exact Same_4 a b w hp
end Go.Proofs.YtlkmagmdhopcjaaGreat
namespace Go.Proofs.YtlkmagmdhopcjaaGreat
open Go.RowKit Go.Sort Go.Lib
def qih (m:PM):Bool:=decide (m.pay.size≤1000) && decide (m.ats.size≤300) && decide (m.mks.size≤100)
theorem fewM_rd {w:World} {m:PM} (h:qih m=true) (ra:RdK encA 2 w.heap.size w m.aA m.ats) (rm:RdI w.heap.size w m.mA m.mks):RdM w m:=by
 unfold qih at h
 simp only [Bool.and_eq_true,decide_eq_true_eq] at h
 exact ⟨ra,rm,by omega,by omega,by omega⟩
set_option maxRecDepth 100000 in
set_option maxHeartbeats 1000000 in
theorem Few_any (m:PM) (w:World) :
 Calls Tryz.prog 7 #[msgV m] w fun e w'=>e=.returned (.bool (qih m))∧Below w.heap.size w w':=by
 have HF:Hid (qih m=(decide (m.pay.size≤1000) && decide (m.ats.size≤300) && decide (m.mks.size≤100))):=rfl
 unfold msgV
 by_cases h1:m.pay.size≤1000
 ·have d1:decide ((m.pay.size:Int)≤1000)=true:=by simp;omega
  by_cases h2:m.ats.size≤300
  ·have d2:decide ((m.ats.size:Int)≤300)=true:=by simp;omega
   by_cases h3:m.mks.size≤100
   ·have d3:decide ((m.mks.size:Int)≤100)=true:=by simp;omega
    have HV:Hid (qih m=true):=by show _=_;rw [HF.out];simp [h1,h2,h3]
    clear HF h1 h2 h3
    go_enter Tryz.func7,Tryz.ntmps7
    go_wp2
    go_ret
    exact ⟨by rw [HV.out];rfl,bel1 w _⟩
   ·have d3:decide ((m.mks.size:Int)≤100)=false:=by simp;omega
    have HV:Hid (qih m=false):=by show _=_;rw [HF.out];simp [h3]
    clear HF h1 h2 h3
    go_enter Tryz.func7,Tryz.ntmps7
    go_wp2
    go_ret
    exact ⟨by rw [HV.out];rfl,bel1 w _⟩
  ·have d2:decide ((m.ats.size:Int)≤300)=false:=by simp;omega
   have HV:Hid (qih m=false):=by show _=_;rw [HF.out];simp [h2]
   clear HF h1 h2
   go_enter Tryz.func7,Tryz.ntmps7
   go_wp2
   go_ret
   exact ⟨by rw [HV.out];rfl,bel1 w _⟩
 ·have d1:decide ((m.pay.size:Int)≤1000)=false:=by simp;omega
  have HV:Hid (qih m=false):=by show _=_;rw [HF.out];simp [h1]
  clear HF h1
  go_enter Tryz.func7,Tryz.ntmps7
  go_wp2
  go_ret
  exact ⟨by rw [HV.out];rfl,bel1 w _⟩
end Go.Proofs.YtlkmagmdhopcjaaGreat
