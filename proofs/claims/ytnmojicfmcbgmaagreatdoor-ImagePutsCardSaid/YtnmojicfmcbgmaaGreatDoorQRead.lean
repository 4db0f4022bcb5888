/- Slices that read as arrays of elements of k cells. A command at a replica, an answer: what they hold in memory; their small tests: phase.Open, Settled, Proposed, Check, entry.within, entry.answer, rubatoref20.ack. The value model of a replica: its rows, its eighteen cells. Pieces of bytes, laid and read, put together: what was laid is read, and what is read was laid. Contracts of the layer 'ranges': Check. Was a question answered: entry.of, question.is, slices.IndexFunc and ContainsFunc by that bound method; rubatoref20.had. Sets of replicas counted; bits. Contracts of the layer 'ranges' and of the document's: Check, in, within, Has, Count, Prefix. Contracts of the layer 'ranges' and of the document's: in, within, Has, Count, Prefix. Contracts of the layer 'ranges' and of the document's: Count, Prefix. Slices of ints that read as arrays; sizes of majorities; sets of replicas. Contracts of the layer 'stable': Check, Of, Least, and the document's. Lists of numbers held against each other; the least mark; whose marks are at least a time. The document's sets; merged marks. Merged marks. Contracts of the document's side of the layer 'stable': Check, many, Of, Least. -/
import Derived.Shelf.GgSortFunc.RowK
import Derived.Test.YtnmojicfmcbgmaaGreatDoorQBase
import Derived.Test.YtnmojicfmcbgmaaGreatDoorShelf
import Derived.Laws.StructEq
import Derived.OwnWalk
import Derived.BigRegion
namespace Go.Proofs.YtnmojicfmcbgmaaGreatDoor
open Go.RowKit Go.Sort
section
variable {α:Type} [Inhabited α] {enc:α→List Value} {k:Nat} {w w':World} {A:Option Addr} {d:Array α} {B:Nat}
def RdK (enc:α→List Value) (k:Nat) (B:Nat) (w:World) (A:Option Addr) (d:Array α):Prop :=
 0 < d.size→∃ b off,A=some ⟨b,off,none⟩∧b < B∧∀ t,t < d.size * k→w.cell? ⟨b,off + t,none⟩=some (flatK enc k d)[t]!
theorem RdK.below (h:RdK enc k B w A d) (hb:Below B w w'):RdK enc k B w' A d:=fun h0=>by
 obtain ⟨b,off,e,hlt,hc⟩:=h h0
 exact ⟨b,off,e,hlt,fun t ht=>(hb.cell (p:=⟨b,off + t,none⟩) hlt).trans (hc t ht)⟩
theorem RdK.mono {B':Nat} (h:RdK enc k B w A d) (hB:B≤B'):RdK enc k B' w A d:=fun h0=>by
 obtain ⟨b,off,e,hlt,hc⟩:=h h0
 exact ⟨b,off,e,by omega,hc⟩
theorem RdK.alloc (h:RdK enc k B w A d) (hB:B≤w.heap.size) (o:Obj):RdK enc k B (w.alloc o) A d:=h.below ((Below.refl _ _).alloc hB o)
theorem qpd (enc:α→List Value) (k:Nat) (d:Array α) (i c:Nat) (hi:i < d.size) (hc:c < k):(flatK enc k d)[i * k + c]! = (enc d[i]!)[c]!:=by
 have lt:i * k + c < d.size * k:=by
  have:=Nat.mul_le_mul_right k (show i + 1≤d.size from hi);rw [Nat.add_mul,Nat.one_mul] at this;omega
 have e1:(i * k + c) / k=i:=(blk_iff k i _ (by omega)).1 ⟨by omega,by omega⟩
 have e2:(i * k + c) % k=c:=by rw [Nat.mod_eq_sub_div_mul,e1];omega
 rw [get_flatK _ _ _ _ lt,e1,e2]
theorem qtj {i c n k:Nat} (hi:i < n) (hc:c < k):i * k + c < n * k:=by
 have:=Nat.mul_le_mul_right k (show i + 1≤n from hi);rw [Nat.add_mul,Nat.one_mul] at this;omega
theorem RdK.at_ (h:RdK enc k B w A d) {i:Nat} (hi:i < d.size):∃ b off,A=some ⟨b,off,none⟩∧b < B∧∀ c,c < k→w.cell? ⟨b,off + i * k + c,none⟩=some (enc d[i]!)[c]!:=by
 obtain ⟨b,off,e,hlt,hc⟩:=h (by omega)
 exact ⟨b,off,e,hlt,fun c hck=>by rw [Nat.add_assoc,hc _ (qtj hi hck),qpd _ _ _ _ _ hi hck]⟩
theorem RdK.of_holds {b off:Nat} (h:HoldsK enc k w b off d) (hb:b < B):RdK enc k B w (some ⟨b,off,none⟩) d:=fun _ =>
 ⟨b,off,rfl,hb,fun t ht=>(h t (by rw [size_flatK];exact ht)).1⟩
theorem qjh {base:Nat} {e:TypeId} {v:Value} (h:w.ownsRow base e k v d.size (flatK enc k d).toList) (hn:v≠.slice none 0 0) :
 ∃ g cap,v=.slice (some ⟨g,0,none⟩) d.size cap∧base≤g∧g < w.heap.size∧HoldsK enc k w g 0 d:=by
 obtain ⟨_,⟨h1,_⟩ | ⟨g,cap,cur,hv,hb,hh,hnc,hmx,hcur,htk⟩⟩:=h
 ·exact absurd h1 hn
 ·have hlt:g < w.heap.size:=by
   rcases Nat.lt_or_ge g w.heap.size with h | h
   ·exact h
   ·rw [Array.getElem?_eq_none h] at hh;cases hh
  refine ⟨g,cap,hv,hb,hlt,fun t ht=>?_⟩
  rw [size_flatK] at ht
  have e1:cur.toList[t]?=(flatK enc k d).toList[t]?:=by rw [←htk,List.getElem?_take_of_lt ht]
  have e2:(flatK enc k d).toList[t]?=some (flatK enc k d)[t]!:=by
   have:t < (flatK enc k d).size:=by rw [size_flatK];exact ht
   rw [Array.getElem?_toList,Array.getElem?_eq_getElem this,getElem!_pos _ t this]
  rw [e2,Array.getElem?_toList] at e1
  exact ⟨by simp [World.cell?,hh,e1],by simp [World.frozen?,hh]⟩
theorem qco (w:World) (cs:Array Value) (e:TypeId) (t:Nat):(w.alloc (.cells cs e)).cell? ⟨w.heap.size,t,none⟩=cs[t]?:=by
 have:(w.alloc (.cells cs e)).heap[w.heap.size]?=some (.cells cs e (0,0)):=by show (w.heap.push _)[w.heap.size]?=_;simp
 unfold World.cell?
 simp only [this]
 rfl
theorem new_cells (w:World) (enc:α→List Value) (k:Nat) (d:Array α) (e:TypeId) (cs:Array Value) (h:cs=flatK enc k d) (t:Nat) (ht:t < d.size * k):(w.alloc (.cells cs e)).cell? ⟨w.heap.size,0 + t,none⟩=some (flatK enc k d)[t]!:=by
 have hs:t < (flatK enc k d).size:=by rw [size_flatK];exact ht
 rw [qco,Nat.zero_add,h,Array.getElem?_eq_getElem hs,getElem!_pos _ t hs]
theorem RdK.new (w:World) (enc:α→List Value) (k:Nat) (d:Array α) (e:TypeId) (cs:Array Value) (h:cs=flatK enc k d):RdK enc k (w.heap.size + 1) (w.alloc (.cells cs e)) (some ⟨w.heap.size,0,none⟩) d:=fun _ =>
 ⟨_,_,rfl,Nat.lt_succ_self _,fun t ht=>new_cells w enc k d e cs h t ht⟩
end
end Go.Proofs.YtnmojicfmcbgmaaGreatDoor
namespace Go.Proofs.YtnmojicfmcbgmaaGreatDoor
open Go.RowKit Go.Sort Go.Lib
structure AK where
 kind:Int
 frm:Int
 bal:Int
 t:Int
 abal:Int
 ph:Int
instance:Inhabited AK:=⟨⟨0,0,0,0,0,0⟩⟩
def encK (a:AK):List Value:=[.int .i64 a.kind,.int .i64 a.frm,.int .i64 a.bal,.int .i64 a.t,.int .i64 a.abal,.int .i64 a.ph]
theorem encK_len (x:AK):(encK x).length=6:=rfl
structure EN where
 id:Int
 ph:Int
 qu:Int
 t:Int
 bal:Int
 abal:Int
 seen:Int
 age:Int
 pay:ByteArray
 A:Option Addr
 c:Nat
 z:Array AK
instance:Inhabited EN:=⟨⟨0,0,0,0,0,0,0,0,ByteArray.empty,none,0,#[]⟩⟩
def encE (e:EN):List Value:=[.int .i64 e.id,.int .i64 e.ph,.int .i64 e.qu,.int .i64 e.t,.int .i64 e.bal,.int .i64 e.abal,.int .i64 e.seen,.int .i64 e.age,.string e.pay,.slice e.A e.z.size e.c]
theorem encE_len (x:EN):(encE x).length=10:=rfl
theorem encE_1 (x:EN):∀ u ∈ encE x,u.oneCell'=true:=by intro u hu;simp [encE] at hu;rcases hu with rfl | rfl | rfl | rfl | rfl | rfl | rfl | rfl | rfl | rfl <;> rfl
structure RdE0 (w:World) (e:EN):Prop where
 rd:RdK encK 6 w.heap.size w e.A e.z
 cz:e.z.size≤e.c
theorem RdE0.below {w w':World} {e:EN} (h:RdE0 w e) (hb:Below w.heap.size w w'):RdE0 w' e:=⟨(h.rd.below hb).mono hb.size,h.cz⟩
structure RdE (w:World) (e:EN):Prop where
 rd:RdK encK 6 w.heap.size w e.A e.z
 cz:e.z.size≤e.c
 sz:e.z.size≤1000
 pz:e.pay.size≤1000
theorem RdE.below {w w':World} {e:EN} (h:RdE w e) (hb:Below w.heap.size w w'):RdE w' e:=⟨(h.rd.below hb).mono hb.size,h.cz,h.sz,h.pz⟩
theorem RdE0.few {w:World} {e:EN} (h:RdE0 w e) (sz:e.z.size≤100) (pz:e.pay.size≤1000):RdE w e:=⟨h.rd,h.cz,by omega,pz⟩
theorem RdE0.fewW {w:World} {e:EN} (h:RdE0 w e) (sz:e.z.size≤1000) (pz:e.pay.size≤1000):RdE w e:=⟨h.rd,h.cz,sz,pz⟩
def openB (p:Int):Bool:=decide (1≤p∧p≤4)
def setlB (p:Int):Bool:=decide (p=5∨p=6)
def propB (p:Int):Bool:=decide (2≤p∧p≤4)
def withB (n top:Int):Bool:=decide (0≤n∧n≤top)
def ackB (a:AK):Bool:=decide (1≤a.kind∧a.kind≤3∧1≤a.frm∧a.frm≤9∧0≤a.t∧a.t≤1000000∧0≤a.bal∧a.bal≤1000000∧0≤a.abal∧a.abal≤1000000∧0≤a.ph∧a.ph≤6)
theorem qfo {p:Prop} [Decidable p] {b:Bool} (h:b=true↔p):Ending.returned (.bool b)=.returned (.bool (decide p)):=by
 rw [show b=decide p by cases b <;> simp_all]
set_option maxRecDepth 100000
theorem qyt (p:Int) (w:World):Calls Tryz.prog 198 #[.int .i64 p] w fun e w'=>e=.returned (.bool (openB p))∧w'=w:=by
 go_enter Tryz.func198,Tryz.ntmps198
 go_wp2
 all_goals
  go_ret
  exact ⟨qfo (by simp <;> omega),rfl⟩
theorem qnp (p:Int) (w:World):Calls Tryz.prog 199 #[.int .i64 p] w fun e w'=>e=.returned (.bool (setlB p))∧w'=w:=by
 go_enter Tryz.func199,Tryz.ntmps199
 go_wp2
 all_goals
  go_ret
  exact ⟨qfo (by simp <;> omega),rfl⟩
theorem qyu (p:Int) (w:World):Calls Tryz.prog 212 #[.int .i64 p] w fun e w'=>e=.returned (.bool (propB p))∧w'=w:=by
 go_enter Tryz.func212,Tryz.ntmps212
 go_wp2
 all_goals
  go_ret
  exact ⟨qfo (by simp <;> omega),rfl⟩
def phE (p:Int):Int:=if 0≤p∧p≤6 then 0 else 2
theorem phE_eq (p:Int):(phE p == 0)=decide (0≤p∧p≤6):=by
 unfold phE
 by_cases h:0≤p∧p≤6
 ·rw [if_pos h];simp [h]
 ·rw [if_neg h];simp;omega
theorem phChk_any (p:Int) (w:World):Calls Tryz.prog 220 #[.int .i64 p] w fun e w'=>e=.returned (.int .i64 (phE p))∧w'=w:=by
 go_enter Tryz.func220,Tryz.ntmps220
 go_wp2
 all_goals
  go_ret
  refine ⟨qaf ?_,rfl⟩
  unfold phE
  first | (rw [if_pos (by omega)]) | (rw [if_neg (by omega)])
theorem qnq (n top:Int) (w:World):Calls Tryz.prog 211 #[.int .i64 n,.int .i64 top] w fun e w'=>e=.returned (.bool (withB n top))∧w'=w:=by
 go_enter Tryz.func211,Tryz.ntmps211
 go_wp2
 all_goals
  go_ret
  exact ⟨qfo (by simp <;> omega),rfl⟩
set_option maxHeartbeats 4000000 in
theorem qyv (a:AK) (w:World):Calls Tryz.prog 215 #[.agg (encK a).toArray] w fun e w'=>e=.returned (.bool (ackB a))∧Below w.heap.size w w':=by
 have hb:Below w.heap.size w (w.alloc (.cells (encK a).toArray 136)):=bel1 w _
 have HP:=hI (phE_eq a.ph)
 obtain ⟨kind,frm,bal,t,abal,ph⟩:=a
 simp only [encK] at hb ⊢
 go_enter Tryz.func215,Tryz.ntmps215
 go_wp2_with (first | (go_at_call 211;refine (qnq _ _ _).mono ?_;rintro e w' ⟨rfl,rfl⟩) | (go_at_call 220;refine (phChk_any _ _).mono ?_;rintro e w' ⟨rfl,rfl⟩))
 all_goals
  go_ret
  refine ⟨qfo ?_,hb⟩
  try rw [HP.out]
  simp only [withB,decide_eq_true_eq,decide_eq_false_iff_not,Bool.false_eq_true,false_iff] at *
  omega
set_option maxHeartbeats 4000000 in
theorem rAck_any (a:AK) (w:World):Calls Tryz.prog 195 #[.agg (encK a).toArray] w fun e w'=>e=.returned (.bool (ackB a))∧Below w.heap.size w w':=by
 have hb:Below w.heap.size w (w.alloc (.cells (encK a).toArray 136)):=bel1 w _
 obtain ⟨kind,frm,bal,t,abal,ph⟩:=a
 simp only [encK] at hb ⊢
 go_enter Tryz.func195,Tryz.ntmps195
 go_wp2
 all_goals
  go_ret
  refine ⟨qfo ?_,hb⟩
  simp only [decide_eq_true_eq,Bool.false_eq_true,false_iff] at *
  omega
end Go.Proofs.YtnmojicfmcbgmaaGreatDoor
namespace Go.Proofs.YtnmojicfmcbgmaaGreatDoor
open Go.RowKit Go.Sort Go.Lib
structure RW (α:Type) where
 A:Option Addr
 c:Nat
 z:Array α
instance {α:Type}:Inhabited (RW α):=⟨⟨none,0,#[]⟩⟩
def RW.v {α:Type} (x:RW α):Value:=.slice x.A x.z.size x.c
def encW {α:Type} (x:RW α):List Value:=[x.v]
theorem qpe {α:Type} (x:RW α):(encW x).length=1:=rfl
theorem encW_1 {α:Type} (x:RW α):∀ u ∈ encW x,u.oneCell'=true:=by intro u hu;simp [encW] at hu;subst hu;rfl
structure KE where
 base:Int
 r:RW (Int×Int)
 a:RW (Int×Int)
instance:Inhabited KE:=⟨⟨0,default,default⟩⟩
def qcs (k:KE):List Value:=[.int .i64 k.base,.slice k.r.A k.r.z.size k.r.c,.slice k.a.A k.a.z.size k.a.c]
theorem qrj (x:KE):(qcs x).length=3:=rfl
theorem encKE_1 (x:KE):∀ u ∈ qcs x,u.oneCell'=true:=by intro u hu;simp [qcs] at hu;rcases hu with rfl | rfl | rfl <;> rfl
structure IT where
 id:Int
 free:Int
 held:Int
 gone:Int
instance:Inhabited IT:=⟨⟨0,0,0,0⟩⟩
def qdc (a:IT):List Value:=[.int .i64 a.id,.int .i64 a.free,.int .i64 a.held,.int .i64 a.gone]
theorem encIT_len (x:IT):(qdc x).length=4:=rfl
theorem encIT_1 (x:IT):∀ u ∈ qdc x,u.oneCell'=true:=by intro u hu;simp [qdc] at hu;rcases hu with rfl | rfl | rfl | rfl <;> rfl
structure SS where
 cl:Int
 seq:Int
 rep:ByteArray
instance:Inhabited SS:=⟨⟨0,0,ByteArray.empty⟩⟩
def qcw (a:SS):List Value:=[.int .i64 a.cl,.int .i64 a.seq,.string a.rep]
theorem encSS_len (x:SS):(qcw x).length=3:=rfl
theorem encSS_1 (x:SS):∀ u ∈ qcw x,u.oneCell'=true:=by intro u hu;simp [qcw] at hu;rcases hu with rfl | rfl | rfl <;> rfl
structure RP where
 n:Int
 f:Int
 self:Int
 clock:Int
 seq:Int
 floor:Int
 ticks:Int
 e:RW EN
 o:RW (Int×Int)
 k:RW KE
 m:RW (RW Int)
 fr:RW Int
 d:RW (RW (Int×Int))
 lt:Int
 lid:Int
 count:Int
 it:RW IT
 ss:RW SS
instance:Inhabited RP:=⟨⟨0,0,0,0,0,0,0,default,default,default,default,default,default,0,0,0,default,default⟩⟩
def encP (r:RP):List Value:=[.int .i64 r.n,.int .i64 r.f,.int .i64 r.self,.int .i64 r.clock,.int .i64 r.seq,.int .i64 r.floor,.int .i64 r.ticks,
 .slice r.e.A r.e.z.size r.e.c,.slice r.o.A r.o.z.size r.o.c,.slice r.k.A r.k.z.size r.k.c,.slice r.m.A r.m.z.size r.m.c,.slice r.fr.A r.fr.z.size r.fr.c,.slice r.d.A r.d.z.size r.d.c,
 .int .i64 r.lt,.int .i64 r.lid,.int .i64 r.count,.slice r.it.A r.it.z.size r.it.c,.slice r.ss.A r.ss.z.size r.ss.c]
end Go.Proofs.YtnmojicfmcbgmaaGreatDoor
namespace Go.Proofs.YtnmojicfmcbgmaaGreatDoor.Nb
structure IS where
 r:RS
 odd:Bool
structure Cod (α:Type) where
 b:α→List UInt8
 rd:List UInt8→IS→IS×α
 ok:α→Prop
 stuck:∀ s st,st.r.e≠0→(rd s st).1=st
 laid:∀ s st t x,st.r.e=0→s.drop st.r.pos=b x ++ t→ok x→rd s st=(⟨⟨st.r.pos + (b x).length,0⟩,st.odd⟩,x)
 back:∀ s st,(rd s st).1.r.e=0→(rd s st).1.odd=false→st.r.e=0∧st.odd=false∧s.drop st.r.pos=b (rd s st).2 ++ s.drop (rd s st).1.r.pos∧ok (rd s st).2∧(st.r.pos≤s.length→(rd s st).1.r.pos≤s.length)
 far:∀ s st,st.r.pos≤s.length→(rd s st).1.r.pos≤s.length
theorem numR_far {s:List UInt8} {most:Nat} {r:RS} (h:r.pos≤s.length):(numR s most r).1.pos≤s.length:=by
 unfold numR
 split
 ·exact h
 ·split
  ·exact h
  ·rename_i n k hg
   split
   ·exact h
   ·have:=(qdi hg).2.2.1
    rw [List.length_drop] at this
    show r.pos + k≤s.length
    omega
theorem textR_far {s:List UInt8} {most:Nat} {r:RS} (h:r.pos≤s.length):(qds s most r).1.pos≤s.length:=by
 unfold qds
 split
 ·exact h
 ·split
  ·exact h
  ·rename_i n k hg
   split
   ·exact h
   ·split
    ·exact h
    ·have:=(qdi hg).2.2.1
     rw [List.length_drop] at this
     show r.pos + k + n≤s.length
     omega
theorem rowR_far {s:List UInt8} {most:Nat} {r:RS} (h:r.pos≤s.length):(rowR s most r).1.pos≤s.length:=by
 unfold rowR
 split
 ·exact h
 ·split
  ·exact h
  ·rename_i l k hg
   have:=(quh hg).1
   rw [List.length_drop] at this
   show r.pos + k≤s.length
   omega
def numC (most:Nat) (hm:most≤9223372036854775807):Cod Nat where
 b:=numB
 rd s st:=(⟨(numR s most st.r).1,st.odd⟩,(numR s most st.r).2)
 ok n:=n≤most
 stuck s st h:=by simp only [qny h]
 laid s st t x he hd hx:=by simp only [numR_laid he hd (by omega) hx]
 back s st he ho:=by
  obtain ⟨a,b,c,d,e⟩:=numR_ok (s:=s) (most:=most) (r:=st.r) (r':=(numR s most st.r).1) (n:=(numR s most st.r).2) rfl he
  exact ⟨a,ho,b,c,e⟩
 far s st h:=numR_far h
def qif (most:Nat) (hm:most≤9223372036854775807):Cod (List UInt8) where
 b:=qea
 rd s st:=(⟨(qds s most st.r).1,st.odd⟩,(qds s most st.r).2)
 ok p:=p.length≤most
 stuck s st h:=by simp only [qkz h]
 laid s st t x he hd hx:=by simp only [qww he hd (by omega) hx]
 back s st he ho:=by
  obtain ⟨a,b,c,d⟩:=textR_ok (s:=s) (most:=most) (r:=st.r) (r':=(qds s most st.r).1) (p:=(qds s most st.r).2) rfl he
  exact ⟨a,ho,b,c,d⟩
 far s st h:=textR_far h
def grp (n:Nat):Nat→List Nat→List (List Nat)
 | 0,_=>[]
 | k + 1,l=>l.take n :: grp n k (l.drop n)
theorem qig (n:Nat):∀ (k:Nat) (l:List Nat),(grp n k l).length=k
 | 0,_=>rfl
 | k + 1,l=>by rw [grp,List.length_cons,qig n k]
theorem qpf (n:Nat):∀ (k:Nat) (l:List Nat),k * n≤l.length→∀ g ∈ grp n k l,g.length=n
 | 0,_,_,g,hg=>by simp [grp] at hg
 | k + 1,l,h,g,hg=>by
   rw [Nat.succ_mul] at h
   rcases List.mem_cons.1 hg with rfl | hg
   ·rw [List.length_take];omega
   ·exact qpf n k (l.drop n) (by rw [List.length_drop];omega) g hg
theorem qvz (n:Nat):∀ (k:Nat) (l:List Nat),l.length=k * n→(grp n k l).flatten=l
 | 0,l,h=>by
   rw [Nat.zero_mul] at h
   rw [List.eq_nil_of_length_eq_zero h]
   rfl
 | k + 1,l,h=>by
   rw [Nat.succ_mul] at h
   rw [grp,List.flatten_cons,qvz n k (l.drop n) (by rw [List.length_drop];omega),List.take_append_drop]
theorem qwa (n:Nat):∀ (gs:List (List Nat)),(∀ g ∈ gs,g.length=n)→grp n gs.length gs.flatten=gs
 | [],_=>rfl
 | g :: gs,h=>by
   have hg:=h g (by simp)
   rw [List.length_cons,List.flatten_cons,grp,List.take_left' hg,List.drop_left' hg,qwa n gs (fun x hx=>h x (by simp [hx]))]
theorem qcp (n:Nat):∀ (gs:List (List Nat)),(∀ g ∈ gs,g.length=n)→gs.flatten.length=gs.length * n
 | [],_=>by simp
 | g :: gs,h=>by
   rw [List.flatten_cons,List.length_append,qcp n gs (fun x hx=>h x (by simp [hx])),h g (by simp),List.length_cons,Nat.succ_mul,Nat.add_comm]
def rowC (n:Nat) (hn:0 < n):Cod (List (List Nat)) where
 b gs:=rowB gs.flatten
 rd s st:=(⟨(rowR s 1000 st.r).1,st.odd || decide ((rowR s 1000 st.r).2.length % n≠0)⟩,grp n ((rowR s 1000 st.r).2.length / n) (rowR s 1000 st.r).2)
 ok gs:=(∀ g ∈ gs,g.length=n∧∀ x ∈ g,x≤9223372036854775807)∧gs.flatten.length≤1000
 stuck s st h:=by simp [qnz h]
 laid s st t x he hd hx:=by
  have h1:=rowR_laid he hd hx.2 (Nat.le_refl _) (fun y hy=>by
   obtain ⟨g,hg,hy⟩:=List.mem_flatten.1 hy
   exact (hx.1 g hg).2 y hy)
  have h2:=qcp n x (fun g hg=>(hx.1 g hg).1)
  simp only [h1,h2,Nat.mul_mod_left,Nat.mul_div_cancel _ hn,qwa n x (fun g hg=>(hx.1 g hg).1)]
  simp
 back s st he ho:=by
  have ho':(st.odd || decide ((rowR s 1000 st.r).2.length % n≠0))=false:=ho
  rw [Bool.or_eq_false_iff,decide_eq_false_iff_not] at ho'
  obtain ⟨o1,o2⟩:=ho'
  have o2:(rowR s 1000 st.r).2.length % n=0:=by omega
  have o3:(rowR s 1000 st.r).2.length=(rowR s 1000 st.r).2.length / n * n:=by
   have:=Nat.div_add_mod (rowR s 1000 st.r).2.length n
   rw [Nat.mul_comm] at this
   omega
  obtain ⟨a,b,c,d,e⟩:=rowR_ok (s:=s) (most:=1000) (r:=st.r) (r':=(rowR s 1000 st.r).1) (l:=(rowR s 1000 st.r).2) rfl he
  have hf:=qvz n _ _ o3
  refine ⟨a,o1,?_,⟨fun g hg=>⟨qpf n _ _ (by omega) g hg,fun x hx=>d x ?_⟩,?_⟩,e⟩
  ·show s.drop st.r.pos=rowB (grp n ((rowR s 1000 st.r).2.length / n) (rowR s 1000 st.r).2).flatten ++ _
   rw [hf];exact b
  ·rw [←hf];exact List.mem_flatten.2 ⟨g,hg,hx⟩
  ·show (grp n ((rowR s 1000 st.r).2.length / n) (rowR s 1000 st.r).2).flatten.length≤1000
   rw [hf];exact c
 far s st h:=rowR_far h
def Cod.dep {α β:Type} (c:Cod α) (d:α→Cod β):Cod (α×β) where
 b x:=c.b x.1 ++ (d x.1).b x.2
 rd s st:=(((d (c.rd s st).2).rd s (c.rd s st).1).1,((c.rd s st).2,((d (c.rd s st).2).rd s (c.rd s st).1).2))
 ok x:=c.ok x.1∧(d x.1).ok x.2
 stuck s st h:=by
  have h1:=c.stuck s st h
  show ((d (c.rd s st).2).rd s (c.rd s st).1).1=st
  rw [h1]
  exact (d (c.rd s st).2).stuck s st h
 laid s st t x he hd hx:=by
  rw [List.append_assoc] at hd
  have h1:=c.laid s st _ x.1 he hd hx.1
  have h2:s.drop (st.r.pos + (c.b x.1).length)=(d x.1).b x.2 ++ t:=qkx hd
  have h3:=(d x.1).laid s ⟨⟨st.r.pos + (c.b x.1).length,0⟩,st.odd⟩ t x.2 rfl h2 hx.2
  simp only [h1,h3,List.length_append,Nat.add_assoc]
 back s st he ho:=by
  obtain ⟨a1,a2,a3,a4,a5⟩:=(d (c.rd s st).2).back s (c.rd s st).1 he ho
  obtain ⟨b1,b2,b3,b4,b5⟩:=c.back s st a1 a2
  refine ⟨b1,b2,?_,⟨b4,a4⟩,fun h=>a5 (b5 h)⟩
  rw [b3,a3,List.append_assoc]
 far s st h:=(d (c.rd s st).2).far s _ (c.far s st h)
def Cod.pair {α β:Type} (c:Cod α) (d:Cod β):Cod (α×β):=c.dep fun _=>d
def qan {α:Type} (f:IS→IS×α):Nat→IS→IS×List α
 | 0,st=>(st,[])
 | k + 1,st=>((qan f k (f st).1).1,(f st).2 :: (qan f k (f st).1).2)
theorem qih {α:Type} {f:IS→IS×α} (h:∀ st,st.r.e≠0→(f st).1=st):∀ (k:Nat) (st:IS),st.r.e≠0→(qan f k st).1=st
 | 0,_,_=>rfl
 | k + 1,st,he=>by
   show (qan f k (f st).1).1=st
   rw [h st he]
   exact qih h k st he
theorem qcm {α:Type} (f:IS→IS×α):∀ (k:Nat) (st:IS),qan f (k + 1) st=((f (qan f k st).1).1,(qan f k st).2 ++ [(f (qan f k st).1).2])
 | 0,st=>by simp [qan]
 | k + 1,st=>by
   rw [qan,qcm f k (f st).1]
   simp [qan]
theorem qet {α:Type} (f:IS→IS×α):∀ (k:Nat) (st:IS),(qan f k st).2.length=k
 | 0,_=>rfl
 | k + 1,st=>by rw [qan,List.length_cons,qet f k]
def Cod.vec {α:Type} (c:Cod α) (n:Nat):Cod (List α) where
 b l:=l.flatMap c.b
 rd s st:=qan (c.rd s) n st
 ok l:=l.length=n∧∀ x ∈ l,c.ok x
 stuck s st h:=qih (c.stuck s) n st h
 laid s st t x he hd hx:=by
  obtain ⟨rfl,hx⟩:=hx
  induction x generalizing st with
  | nil =>
    obtain ⟨⟨p,e⟩,o⟩:=st
    have:e=0:=he
    subst this
    simp [qan]
  | cons y l ih =>
    rw [List.flatMap_cons,List.append_assoc] at hd
    have h1:=c.laid s st _ y he hd (hx y (by simp))
    have h2:s.drop (st.r.pos + (c.b y).length)=l.flatMap c.b ++ t:=qkx hd
    have h3:=ih ⟨⟨st.r.pos + (c.b y).length,0⟩,st.odd⟩ rfl h2 (fun z hz=>hx z (by simp [hz]))
    rw [List.length_cons,qan,h1]
    simp only [h3,List.flatMap_cons,List.length_append,Nat.add_assoc]
 back s st he ho:=by
  have key:∀ (k:Nat) (st:IS),(qan (c.rd s) k st).1.r.e=0→(qan (c.rd s) k st).1.odd=false→st.r.e=0∧st.odd=false∧s.drop st.r.pos=(qan (c.rd s) k st).2.flatMap c.b ++ s.drop (qan (c.rd s) k st).1.r.pos∧(∀ x ∈ (qan (c.rd s) k st).2,c.ok x)∧(st.r.pos≤s.length→(qan (c.rd s) k st).1.r.pos≤s.length):=by
   intro k
   induction k with
   | zero=>intro st he ho;exact ⟨he,ho,by simp [qan],by simp [qan],fun h=>h⟩
   | succ k ih =>
     intro st he ho
     obtain ⟨a1,a2,a3,a4,a5⟩:=ih (c.rd s st).1 he ho
     obtain ⟨b1,b2,b3,b4,b5⟩:=c.back s st a1 a2
     refine ⟨b1,b2,?_,fun x hx=>?_,fun h=>a5 (b5 h)⟩
     ·rw [b3,a3,qan,List.flatMap_cons,List.append_assoc]
     ·rcases List.mem_cons.1 hx with rfl | hx
      ·exact b4
      ·exact a4 x hx
  obtain ⟨a1,a2,a3,a4,a5⟩:=key n st he ho
  exact ⟨a1,a2,a3,⟨qet _ _ _,a4⟩,a5⟩
 far s st h:=by
  have key:∀ (k:Nat) (st:IS),st.r.pos≤s.length→(qan (c.rd s) k st).1.r.pos≤s.length:=by
   intro k
   induction k with
   | zero=>intro st h;exact h
   | succ k ih=>intro st h;exact ih _ (c.far s st h)
  exact key n st h
def Cod.iso {α β:Type} (c:Cod α) (f:α→β) (g:β→α) (fg:∀ y,f (g y)=y) (gf:∀ x,c.ok x→g (f x)=x):Cod β where
 b y:=c.b (g y)
 rd s st:=((c.rd s st).1,f (c.rd s st).2)
 ok y:=c.ok (g y)
 stuck s st h:=c.stuck s st h
 laid s st t y he hd hy:=by simp only [c.laid s st t (g y) he hd hy,fg]
 back s st he ho:=by
  obtain ⟨a1,a2,a3,a4,a5⟩:=c.back s st he ho
  have e:=gf _ a4
  exact ⟨a1,a2,by show _=c.b (g (f (c.rd s st).2)) ++ _;rw [e];exact a3,by show c.ok (g (f (c.rd s st).2));rw [e];exact a4,a5⟩
 far s st h:=c.far s st h
def Cod.list {α:Type} (c:Cod α) (most:Nat) (hm:most≤9223372036854775807):Cod (List α) :=
 ((numC most hm).dep fun n=>c.vec n).iso (fun x=>x.2) (fun l=>(l.length,l)) (fun _=>rfl) (fun x h=>by
   obtain ⟨n,l⟩:=x
   have:l.length=n:=h.2.1
   subst this
   rfl)
end Go.Proofs.YtnmojicfmcbgmaaGreatDoor.Nb
namespace Go.Proofs.YtnmojicfmcbgmaaGreatDoor
open Go.RowKit Go.Sort Nb
def nC:Cod Nat:=numC 1000000 (by decide)
abbrev GS:=List (List Nat)
abbrev EntT:=List Nat×(List UInt8×GS)
def enC:Cod EntT:=(nC.vec 8).pair ((qif 300 (by decide)).pair (rowC 6 (by decide)))
abbrev KnT:=Nat×(GS×GS)
def knC:Cod KnT:=nC.pair ((rowC 2 (by decide)).pair (rowC 2 (by decide)))
abbrev SeT:=List Nat×List UInt8
def seC:Cod SeT:=(nC.vec 2).pair (qif 300 (by decide))
abbrev TailT:=List EntT×(GS×(List KnT×(List GS×(GS×(List GS×(List (List Nat)×List SeT))))))
def headC:Cod (Nat×List Nat):=(numC 9 (by decide)).pair (nC.vec 9)
def tailC (n:Nat):Cod TailT:=(enC.list 1000 (by decide)).pair ((rowC 2 (by decide)).pair ((knC.vec n).pair (((rowC 1 (by decide)).vec n).pair ((rowC 1 (by decide)).pair (((rowC 2 (by decide)).vec n).pair (((nC.vec 4).list 1000 (by decide)).pair (seC.list 1000 (by decide))))))))
abbrev RepT:=(Nat×List Nat)×TailT
def repC:Cod RepT:=headC.dep fun h=>tailC h.1
def natP (x:Int×Int):List Nat:=[x.1.toNat,x.2.toNat]
def qbg (d:Array (Int×Int)):GS:=d.toList.map natP
def intM (d:Array Int):GS:=d.toList.map fun n=>[n.toNat]
def ackN (a:AK):List Nat:=[a.kind.toNat,a.frm.toNat,a.bal.toNat,a.t.toNat,a.abal.toNat,a.ph.toNat]
def ent8 (e:EN):List Nat:=[e.id.toNat,e.ph.toNat,e.qu.toNat,e.t.toNat,e.bal.toNat,e.abal.toNat,e.seen.toNat,e.age.toNat]
def entM (e:EN):EntT:=(ent8 e,(e.pay.data.toList,e.z.toList.map ackN))
def knM (k:KE):KnT:=(k.base.toNat,(qbg k.r.z,qbg k.a.z))
def itM (x:IT):List Nat:=[x.id.toNat,x.free.toNat,x.held.toNat,x.gone.toNat]
def seM (x:SS):SeT:=([x.cl.toNat,x.seq.toNat],x.rep.data.toList)
def qpg (r:RP):List Nat:=[r.f.toNat,r.self.toNat,r.clock.toNat,r.seq.toNat,r.floor.toNat,r.ticks.toNat,r.lt.toNat,r.lid.toNat,r.count.toNat]
def repM (r:RP):RepT:=((r.n.toNat,qpg r),(r.e.z.toList.map entM,(qbg r.o.z,(r.k.z.toList.map knM,(r.m.z.toList.map (fun x=>intM x.z),(intM r.fr.z,(r.d.z.toList.map (fun x=>qbg x.z),(r.it.z.toList.map itM,r.ss.z.toList.map seM))))))))
def nnP (d:Array (Int×Int)):Prop:=∀ x ∈ d.toList,0≤x.1∧0≤x.2
def nnI (d:Array Int):Prop:=∀ x ∈ d.toList,0≤x
def nnA (a:AK):Prop:=0≤a.kind∧0≤a.frm∧0≤a.bal∧0≤a.t∧0≤a.abal∧0≤a.ph
def nnE (e:EN):Prop:=(0≤e.id∧0≤e.ph∧0≤e.qu∧0≤e.t∧0≤e.bal∧0≤e.abal∧0≤e.seen∧0≤e.age)∧∀ a ∈ e.z.toList,nnA a
def nnK (k:KE):Prop:=0≤k.base∧nnP k.r.z∧nnP k.a.z
def nnT (x:IT):Prop:=0≤x.id∧0≤x.free∧0≤x.held∧0≤x.gone
def nnS (x:SS):Prop:=0≤x.cl∧0≤x.seq
end Go.Proofs.YtnmojicfmcbgmaaGreatDoor
namespace Go.Proofs.YtnmojicfmcbgmaaGreatDoor
open Go.RowKit Go.Sort Go.Lib
def encR (x:Int×Int):List Value:=[.int .i64 x.1,.int .i64 x.2]
def qgn (d:Array (Int×Int)) (k:Nat):Bool:=decide (d[k]!.1 < 1∨1000000 < d[k]!.2∨d[k]!.2 < d[k]!.1∨(0 < k∧d[k]!.1 - 1≤d[k - 1]!.2))
def qaw (d:Array (Int×Int)):Int:=if 1000 < d.size∨(List.range d.size).any (qgn d)=true then 2 else 0
theorem qwb {d:Array (Int×Int)} {k:Nat} (hk:k < d.size) (h:qgn d k=true):qaw d=2:=by
 unfold qaw;rw [if_pos];right;rw [List.any_eq_true];exact ⟨k,by simpa using hk,h⟩
theorem qwc {d:Array (Int×Int)} (h:1000 < d.size):qaw d=2:=by unfold qaw;rw [if_pos (Or.inl h)]
theorem qtk {d:Array (Int×Int)} (h1:d.size≤1000) (h:∀ k,k < d.size→qgn d k=false):qaw d=0:=by
 unfold qaw;rw [if_neg]
 rintro (h' | h')
 ·omega
 ·rw [List.any_eq_true] at h'
  obtain ⟨k,hk,hb⟩:=h'
  rw [h k (by simpa using hk)] at hb;cases hb
theorem qel {d:Array (Int×Int)} (h:qaw d=0):d.size≤1000∧∀ k,k < d.size→qgn d k=false:=by
 unfold qaw at h
 split at h
 ·cases h
 ·rename_i hh
  refine ⟨by omega,fun k hk=>?_⟩
  cases hb:qgn d k
  ·rfl
  ·exact absurd (Or.inr (by rw [List.any_eq_true];exact ⟨k,by simpa using hk,hb⟩)) hh
def qmr (d:Array (Int×Int)) (k:Nat):Int:=if k=0 then -1 else d[k - 1]!.2
set_option maxHeartbeats 2000000 in
theorem qka (A:Option Addr) (c:Nat) (d:Array (Int×Int)) (w:World) (h:RdK encR 2 w.heap.size w A d) :
 Calls Tryz.prog 165 #[.slice A d.size c] w fun e w'=>e=.returned (.int .i64 (qaw d))∧Below w.heap.size w w':=by
 by_cases hd:1000 < d.size
 ·have HE:=hI (qwc hd)
  have hz:(1000:Int) < (d.size:Int):=by omega
  go_enter Tryz.func165,Tryz.ntmps165
  go_wp2
  go_ret
  exact ⟨qaf HE.out.symm,Below.refl _ _⟩
 ·have hd':d.size≤1000:=by omega
  have hz:decide ((1000:Int) < (d.size:Int))=false:=by simp;omega
  clear hd
  have HOK:=hI (qtk hd')
  go_enter Tryz.func165,Tryz.ntmps165
  go_wp2
  go_loopw [3,11] (fun l i wr=>∃ k:Nat,k≤d.size∧i=.int .i64 k∧l=.int .i64 (qmr d k)∧-1≤qmr d k∧qmr d k≤1000000∧(∀ j,j < k→qgn d j=false)∧Below w.heap.size w wr) (fun _ i _=>d.size - (intOf i).toNat)
  case atStart=>exact ⟨0,Nat.zero_le _,rfl,rfl,by simp [qmr],by simp [qmr],fun j hj=>absurd hj (by omega),Below.refl _ _⟩
  case round =>
   obtain ⟨k,hk,rfl,rfl,l1,l2,hj,hb⟩:=hrel
   have HJ:=hI hj;clear hj
   by_cases hlt:k < d.size
   ·obtain ⟨b,off,rfl,_,f⟩:=(h.below hb).at_ hlt
    have f0:=f 0 (by omega)
    have f1:=f 1 (by omega)
    have HB:Hid (qgn d k=decide (d[k]!.1 < 1∨1000000 < d[k]!.2∨d[k]!.2 < d[k]!.1∨d[k]!.1≤qmr d k + 1)):=by
     show _=_
     unfold qgn qmr
     rw [decide_eq_decide]
     by_cases h0:k=0
     ·subst h0;simp;omega
     ·rw [if_neg h0];constructor <;> intro hh <;> omega
    have HL:Hid (qmr d (k + 1)=d[k]!.2):=by show _=_;unfold qmr;rw [if_neg (by omega)];rfl
    have HBB:=hI (fun h=>@qwb d k hlt h)
    generalize d[k]! = x at f0 f1 HB HL
    simp only [Nat.add_zero,encR,List.getElem!_cons_zero,List.getElem!_cons_succ] at f0 f1
    generalize qmr d k=l at *
    clear f
    have kz:(k:Int) < (d.size:Int):=by omega
    go_wp2
    all_goals first
     | (go_ret;exact ⟨qaf (HBB.out (by rw [HB.out];simp;omega)).symm,qad hb _⟩)
     | exact ⟨⟨k + 1,by omega,by go_num,by rw [HL.out],by rw [HL.out];omega,by rw [HL.out];omega,fun j hj=>by
        rcases Nat.lt_or_ge j k with h' | h'
        ·exact HJ.out j h'
        ·obtain rfl:j=k:=by omega
         rw [HB.out];simp;omega,qad hb _⟩,by simp [intOf];omega⟩
   ·go_wp2
    go_ret
    exact ⟨qaf (HOK.out fun j hj=>HJ.out j (by omega)).symm,hb⟩
end Go.Proofs.YtnmojicfmcbgmaaGreatDoor
namespace Go.Proofs.YtnmojicfmcbgmaaGreatDoor
open Go.RowKit Go.Sort Go.Lib
set_option maxRecDepth 100000
def qB (b a:AK):Bool:=decide (b.kind=a.kind∧b.frm=a.frm∧b.bal=a.bal)
def hadN (z:Array AK) (n:Nat) (a:AK):Bool:=(List.range n).any fun j=>qB z[j]! a
theorem qwd {z:Array AK} {n:Nat} {a:AK} (j:Nat) (hj:j < n) (h:qB z[j]! a=true):hadN z n a=true:=by
 unfold hadN;rw [List.any_eq_true];exact ⟨j,List.mem_range.2 hj,h⟩
theorem hadN_no {z:Array AK} {n:Nat} {a:AK} (h:∀ j,j < n→qB z[j]! a=false):hadN z n a=false:=by
 unfold hadN;rw [List.any_eq_false];intro j hj;rw [h j (List.mem_range.1 hj)];exact Bool.false_ne_true
theorem of_any (a:AK) (w:World):Calls Tryz.prog 213 #[.agg (encK a).toArray] w fun e w'=>e=.returned (.agg #[.int .i64 a.kind,.int .i64 a.frm,.int .i64 a.bal])∧Below w.heap.size w w':=by
 have hb:∀ o,Below w.heap.size w ((w.alloc (.cells (encK a).toArray 136)).alloc o):=fun o=>qad (bel1 w _) o
 obtain ⟨kind,frm,bal,t,abal,ph⟩:=a
 simp only [encK] at hb ⊢
 go_enter Tryz.func213,Tryz.ntmps213
 go_wp2
 have hS:Tryz.prog.underlying 297 = some (.struct (Tryz.prog.fieldsOf 297)):=by kernel_rfl
 refine bodyPost_ret (results_cell_row rfl _ _ (w.heap.size + 1) 297 _ (0,0) _ rfl (heap_alloc2_new w _ _) hS rfl (by kernel_rfl)) rfl ?_
 exact ⟨rfl,hb _⟩
theorem eqQ_run (x y:AK) (w:World):(binOp .eql 297 (.agg #[.int .i64 x.kind,.int .i64 x.frm,.int .i64 x.bal]) (.agg #[.int .i64 y.kind,.int .i64 y.frm,.int .i64 y.bal])).run Tryz.prog w=.ok (.bool (qB x y)) w:=by
 have hS:Tryz.prog.underlying 297 = some (.struct (Tryz.prog.fieldsOf 297)):=by kernel_rfl
 have hp:Tryz.prog.stoodInHeld 297 = false:=by kernel_rfl
 have u3:=Tryz.underlying3
 rw [run_eql_struct,show (10000:Nat)=9999 + 1 from rfl,run_equalIn_agg w 9999 297 _ _ hS hp]
 simp only [Program.fieldsOf,Tryz.underlying297]
 go_simp
 unfold qB
 by_cases h1:x.kind=y.kind <;> by_cases h2:x.frm=y.frm <;> by_cases h3:x.bal=y.bal <;> simp [h1,h2,h3]
set_option maxHeartbeats 4000000 in
theorem is_any (q a:AK) (w:World):Calls Tryz.prog 214 #[.agg #[.int .i64 q.kind,.int .i64 q.frm,.int .i64 q.bal],.agg (encK a).toArray] w fun e w'=>e=.returned (.bool (qB a q))∧Below w.heap.size w w':=by
 have HO:=hI (fun W=>of_any a W)
 have heq:=eqQ_run a q
 generalize qB a q=r at heq
 obtain ⟨kind,frm,bal,t,abal,ph⟩:=a
 simp only [encK] at heq HO ⊢
 go_enter Tryz.func214,Tryz.ntmps214
 go_wp2_with fail
 have hc:∀ j,((w.alloc (.cells #[.int .i64 q.kind,.int .i64 q.frm,.int .i64 q.bal] 297)).alloc (.cells #[.int .i64 kind,.int .i64 frm,.int .i64 bal,.int .i64 t,.int .i64 abal,.int .i64 ph] 136)).cell? ⟨w.heap.size + 1,j,none⟩=(#[.int .i64 kind,.int .i64 frm,.int .i64 bal,.int .i64 t,.int .i64 abal,.int .i64 ph]:Array Value)[j]?:=fun j=>by
  simp
 have hd:∀ j,((w.alloc (.cells #[.int .i64 q.kind,.int .i64 q.frm,.int .i64 q.bal] 297)).alloc (.cells #[.int .i64 kind,.int .i64 frm,.int .i64 bal,.int .i64 t,.int .i64 abal,.int .i64 ph] 136)).cell? ⟨w.heap.size,j,none⟩=(#[.int .i64 q.kind,.int .i64 q.frm,.int .i64 q.bal]:Array Value)[j]?:=fun j=>by
  rw [World.cell?_alloc_lt _ _ _ (by simp),qco]
 have hl:((w.alloc (.cells #[.int .i64 q.kind,.int .i64 q.frm,.int .i64 q.bal] 297)).alloc (.cells #[.int .i64 kind,.int .i64 frm,.int .i64 bal,.int .i64 t,.int .i64 abal,.int .i64 ph] 136)).heap.size=w.heap.size + 2:=by simp
 have HB:=hI (qad (bel1 w (.cells #[.int .i64 q.kind,.int .i64 q.frm,.int .i64 q.bal] 297)) (.cells #[.int .i64 kind,.int .i64 frm,.int .i64 bal,.int .i64 t,.int .i64 abal,.int .i64 ph] 136))
 generalize (w.alloc (.cells #[.int .i64 q.kind,.int .i64 q.frm,.int .i64 q.bal] 297)).alloc (.cells #[.int .i64 kind,.int .i64 frm,.int .i64 bal,.int .i64 t,.int .i64 abal,.int .i64 ph] 136)=w1 at hc hd hl HB ⊢
 have a0:=fun p:ExtW w1=>p.cell (a:=⟨w.heap.size + 1,0,none⟩) (by simp;omega) (hc 0)
 have a1:=fun p:ExtW w1=>p.cell (a:=⟨w.heap.size + 1,1,none⟩) (by simp;omega) (hc 1)
 have a2:=fun p:ExtW w1=>p.cell (a:=⟨w.heap.size + 1,2,none⟩) (by simp;omega) (hc 2)
 have a3:=fun p:ExtW w1=>p.cell (a:=⟨w.heap.size + 1,3,none⟩) (by simp;omega) (hc 3)
 have a4:=fun p:ExtW w1=>p.cell (a:=⟨w.heap.size + 1,4,none⟩) (by simp;omega) (hc 4)
 have a5:=fun p:ExtW w1=>p.cell (a:=⟨w.heap.size + 1,5,none⟩) (by simp;omega) (hc 5)
 have b0:=fun p:ExtW w1=>p.cell (a:=⟨w.heap.size,0,none⟩) (by simp;omega) (hd 0)
 have b1:=fun p:ExtW w1=>p.cell (a:=⟨w.heap.size,1,none⟩) (by simp;omega) (hd 1)
 have b2:=fun p:ExtW w1=>p.cell (a:=⟨w.heap.size,2,none⟩) (by simp;omega) (hd 2)
 clear hc hd hl
 refine qae (by kernel_rfl) (by kernel_rfl) ?_
 repeat (first | go_big_quiet_step ((go_at_call 213;exact Calls.ext_of (HO.out _))) | quiet_step ((go_at_call 213;exact Calls.ext_of (HO.out _))))
 refine wpQuiet_nil ?_
 intro wq hw'
 obtain ⟨⟨W,hbW⟩,hw''⟩:=hw'
 have hw3:wq=W:=hw''
 subst hw3
 have HBW:=hI (qac HB.out hbW)
 clear hbW hw'' a0 a1 a2 a3 a4 a5 b0 b1 b2
 go_wp2
 go_ret
 exact ⟨rfl,HBW.out⟩
def IdxK (z:Array AK) (n:Nat) (a:AK) (e:Ending):Prop:=∃ r:Int,e=.returned (.int .i64 r)∧((0≤r∧hadN z n a=true)∨(r = -1∧hadN z n a=false))
set_option maxHeartbeats 2000000 in
theorem qyw (A:Option Addr) (c n:Nat) (z:Array AK) (q:AK) (w:World) (h:RdK encK 6 w.heap.size w A z) (hn:n≤z.size) (hs:z.size≤1000000) :
 Calls Tryz.prog 221 #[.slice A n c,.func (.func 214) #[.agg #[.int .i64 q.kind,.int .i64 q.frm,.int .i64 q.bal]] #[]] w fun e w'=>IdxK z n q e∧Below w.heap.size w w':=by
 have HR:=hI h
 clear h
 go_enter Tryz.func221,Tryz.ntmps221
 go_wp2
 go_loopw [8] (fun i wr=>∃ k:Nat,i=.int .i64 k∧k≤n∧Hid (∀ j,j < k→qB z[j]! q=false)∧Hid (Below w.heap.size w wr)) (fun i _=>n - (intOf i).toNat)
 case atStart=>exact ⟨0,rfl,Nat.zero_le _,hI (fun j hj=>absurd hj (by omega)),hI (Below.refl _ _)⟩
 case round =>
  obtain ⟨k,rfl,hk,hall,HB⟩:=hrel
  by_cases hlt:k < n
  ·have kz:(k:Int) < (n:Int):=by omega
   obtain ⟨b,off,rfl,hbl,f⟩:=(HR.out.below HB.out).at_ (i:=k) (by omega)
   have e0:=f 0 (by omega)
   have e1:=f 1 (by omega)
   have e2:=f 2 (by omega)
   have e3:=f 3 (by omega)
   have e4:=f 4 (by omega)
   have e5:=f 5 (by omega)
   have HIs:=hI (fun W=>is_any q z[k]! W)
   have HX:Hid (qB z[k]! q=qB z[k]! q):=rfl
   generalize hx:z[k]! = x at e0 e1 e2 e3 e4 e5 HIs
   have HXX:=hI hx
   clear hx HX f
   obtain ⟨kind,frm,bal,t,abal,ph⟩:=x
   simp only [encK,Nat.add_zero,List.getElem!_cons_zero,List.getElem!_cons_succ] at e0 e1 e2 e3 e4 e5 HIs
   cases hq:qB ⟨kind,frm,bal,t,abal,ph⟩ q
   ·rw [hq] at HIs
    have HQ:=hI hq
    clear hq
    go_wp2_with (go_at_call 214;refine (HIs.out _).mono ?_;rintro e w' ⟨rfl,hb'⟩)
    go_roundw
    case rel =>
     refine ⟨k + 1,by go_num,by omega,hI (fun j hj=>?_),hI (qac HB.out hb')⟩
     rcases Nat.lt_or_ge j k with h | h
     ·exact hall.out j h
     ·obtain rfl:j=k:=by omega
      rw [HXX.out];exact HQ.out
    case measure=>simp [intOf];omega
   ·rw [hq] at HIs
    have HQ:=hI hq
    clear hq
    go_wp2_with (go_at_call 214;refine (HIs.out _).mono ?_;rintro e w' ⟨rfl,hb'⟩)
    go_ret
    exact ⟨⟨k,rfl,Or.inl ⟨by omega,qwd k (by omega) (by rw [HXX.out];exact HQ.out)⟩⟩,qac HB.out hb'⟩
  ·have hlt':decide ((k:Int) < (n:Int))=false:=by simp;omega
   go_wp2
   go_ret
   exact ⟨⟨-1,rfl,Or.inr ⟨rfl,hadN_no fun j hj=>hall.out j (by omega)⟩⟩,HB.out⟩
theorem qyx (A:Option Addr) (c n:Nat) (z:Array AK) (q:AK) (w:World) (h:RdK encK 6 w.heap.size w A z) (hn:n≤z.size) (hs:z.size≤1000000) :
 Calls Tryz.prog 216 #[.slice A n c,.func (.func 214) #[.agg #[.int .i64 q.kind,.int .i64 q.frm,.int .i64 q.bal]] #[]] w fun e w'=>e=.returned (.bool (hadN z n q))∧Below w.heap.size w w':=by
 have HI:=hI (qyw A c n z q w h hn hs)
 clear h
 go_enter Tryz.func216,Tryz.ntmps216
 go_wp2_with fail
 refine HI.out.mono ?_
 rintro e w' ⟨⟨r,rfl,hr⟩,hb⟩
 have HRR:=hI hr
 have HB:=hI hb
 clear hr hb
 go_wp2
 go_ret
 refine ⟨qag ?_,HB.out⟩
 rcases HRR.out with ⟨h1,h2⟩ | ⟨h1,h2⟩
 ·rw [h2];simp;omega
 ·rw [h2];simp;omega
end Go.Proofs.YtnmojicfmcbgmaaGreatDoor
namespace Go.Proofs.YtnmojicfmcbgmaaGreatDoor
open Go.RowKit Go.Sort Go.Lib
def qrk (x:Nat):Nat→Nat
 | 0=>0
 | k + 1=>qrk x k + if x.testBit k then 1 else 0
def F1_C (x:Int):Int:=IntKind.u64.wrap (bits .and .u64 (x / 2) 6148914691236517205 + bits .and .u64 x 6148914691236517205)
def F2_C (y:Int):Int:=IntKind.u64.wrap (bits .and .u64 (y / 4) 3689348814741910323 + bits .and .u64 y 3689348814741910323)
def F3_C (y:Int):Int:=bits .and .u64 (y / 16 + y) 1085102592571150095
def F4_C (y:Int):Int:=bits .and .i64 (y + y / 256 + (y + y / 256) / 65536 + (y + y / 256 + (y + y / 256) / 65536) / 4294967296) 127
theorem pc_all_C:∀ x:Fin 512,0≤F1_C (x.1:Int)∧F1_C (x.1:Int)≤5000∧0≤F2_C (F1_C (x.1:Int))∧F2_C (F1_C (x.1:Int))≤5000∧0≤F3_C (F2_C (F1_C (x.1:Int)))∧F3_C (F2_C (F1_C (x.1:Int)))≤5000∧F4_C (F3_C (F2_C (F1_C (x.1:Int))))=(qrk x.1 9:Int):=by decide +kernel
set_option maxHeartbeats 1000000 in
theorem qrl (x:Nat) (w:World) (h1:x≤511) :
 Calls Tryz.prog 219 #[.int .u64 x] w fun e w'=>e=.returned (.int .i64 (qrk x 9))∧w=w':=by
 obtain ⟨a1,b1,a2,b2,a3,b3,hp⟩:=pc_all_C ⟨x,by omega⟩
 have HP:Hid (F4_C (F3_C (F2_C (F1_C (x:Int))))=(qrk x 9:Int)):=hp
 simp only [] at a1 b1 a2 b2 a3 b3
 have e1:IntKind.u64.wrap (bits .and .u64 ((x:Int) / 2) 6148914691236517205 + bits .and .u64 (x:Int) 6148914691236517205)=F1_C (x:Int):=rfl
 generalize F1_C (x:Int)=y1 at *
 have e2:IntKind.u64.wrap (bits .and .u64 (y1 / 4) 3689348814741910323 + bits .and .u64 y1 3689348814741910323)=F2_C y1:=rfl
 generalize F2_C y1=y2 at *
 have e3:bits .and .u64 (y2 / 16 + y2) 1085102592571150095=F3_C y2:=rfl
 generalize F3_C y2=y3 at *
 have x0:(0:Int)≤x:=by omega
 clear hp
 go_enter Tryz.func219,Tryz.ntmps219
 go_wp2
 go_ret
 exact ⟨qaf (by rw [←HP.out];rfl),rfl⟩
theorem qyy (x:Nat) (w:World) (h1:x≤511) :
 Calls Tryz.prog 210 #[.int .u64 x] w fun e w'=>e=.returned (.int .i64 (qrk x 9))∧w=w':=by
 go_enter Tryz.func210,Tryz.ntmps210
 go_wp2_with (go_at_call 219;refine (qrl _ _ h1).mono ?_;rintro e w' ⟨rfl,rfl⟩)
 go_ret
 exact ⟨rfl,rfl⟩
theorem qrm (s:Int) (w:World) :
 Calls Tryz.prog 209 #[.int .i64 s] w fun e w'=>e=.returned (.bool (decide (0≤s∧s≤511)))∧w=w':=by
 go_enter Tryz.func209,Tryz.ntmps209
 go_wp2
 all_goals
  go_ret
  exact ⟨qag (by simp <;> omega),rfl⟩
theorem qtl (x:Nat) (w:World) (h1:x≤511) :
 Calls Tryz.prog 200 #[.int .i64 x] w fun e w'=>e=.returned (.int .i64 (qrk x 9))∧w=w':=by
 have hm:=qrm (x:Int)
 rw [show decide (0≤(x:Int)∧(x:Int)≤511)=true by simp;omega] at hm
 have HM:=hI hm;clear hm
 go_enter Tryz.func200,Tryz.ntmps200
 go_wp2_with (first | (go_at_call 209;refine (HM.out _).mono ?_;rintro e w' ⟨rfl,rfl⟩) | (go_at_call 210;refine (qyy _ _ h1).mono ?_;rintro e w' ⟨rfl,rfl⟩))
 go_ret
 exact ⟨rfl,rfl⟩
theorem pc_pos_C:∀ x:Fin 512,0 < x.1→0 < qrk x.1 9:=by decide +kernel
def cntN (q:Int):Int:=if 0≤q∧q≤511 then (qrk q.toNat 9:Int) else 0
theorem cntN_zero (q:Int):(cntN q == 0)=decide (q < 1∨511 < q):=by
 unfold cntN
 by_cases h:0≤q∧q≤511
 ·rw [if_pos h]
  rcases Nat.eq_zero_or_pos q.toNat with h0 | h0
  ·have hq:q=0:=by omega
   subst hq
   rfl
  ·have:=pc_pos_C ⟨q.toNat,by omega⟩ h0
   simp only [] at this
   rw [decide_eq_false (by omega)]
   exact beq_eq_false_iff_ne.2 (by omega)
 ·rw [if_neg h,decide_eq_true (by omega)];rfl
theorem qyz (q:Int) (w:World):Calls Tryz.prog 200 #[.int .i64 q] w fun e w'=>e=.returned (.int .i64 (cntN q))∧w=w':=by
 by_cases h:0≤q∧q≤511
 ·have:=qtl q.toNat w (by omega)
  rw [show ((q.toNat:Nat):Int)=q by omega] at this
  unfold cntN
  rw [if_pos h]
  exact this
 ·have HM:=hI (fun W=>qrm q W)
  rw [show decide (0≤q∧q≤511)=false by simp;omega] at HM
  unfold cntN
  rw [if_neg h]
  clear h
  go_enter Tryz.func200,Tryz.ntmps200
  go_wp2_with (go_at_call 209;refine (HM.out _).mono ?_;rintro e w' ⟨rfl,rfl⟩)
  go_ret
  exact ⟨rfl,rfl⟩
end Go.Proofs.YtnmojicfmcbgmaaGreatDoor
namespace Go.Proofs.YtnmojicfmcbgmaaGreatDoor
open Go.RowKit Go.Sort Go.Lib
set_option maxHeartbeats 4000000 in
theorem qgg (A:Option Addr) (c:Nat) (d:Array (Int×Int)) (B:Nat) (w:World) (h:RdK encR 2 B w A d) :
 Calls Tryz.prog 129 #[.slice A d.size c] w fun e w'=>e=.returned (.int .i64 (qaw d))∧∃ q,w'=w.drewN q:=by
 by_cases hd:1000 < d.size
 ·have HE:=hI (qwc hd)
  have hz:(1000:Int) < (d.size:Int):=by omega
  go_enter Tryz.func129,Tryz.ntmps129
  go_wp2
  go_ret
  exact ⟨qaf HE.out.symm,0,rfl⟩
 ·have hd':d.size≤1000:=by omega
  have hz:decide ((1000:Int) < (d.size:Int))=false:=by simp;omega
  clear hd
  have HOK:=hI (qtk hd')
  go_enter Tryz.func129,Tryz.ntmps129
  go_wp2
  go_loopw [3] (fun i wr=>∃ k q:Nat,k≤d.size∧i=.int .i64 k∧wr=w.drewN q∧(∀ j,j < k→qgn d j=false)) (fun i _=>d.size - (intOf i).toNat)
  case atStart=>exact ⟨0,0,Nat.zero_le _,rfl,rfl,fun j hj=>absurd hj (by omega)⟩
  case round =>
   obtain ⟨k,q,hk,rfl,rfl,hj⟩:=hrel
   have HJ:=hI hj;clear hj
   by_cases hlt:k < d.size
   ·have hR:=h
    obtain ⟨b,off,rfl,_,f⟩:=h.at_ hlt
    have f0:=f 0 (by omega)
    have f1:=f 1 (by omega)
    have HBB:=hI (fun h=>@qwb d k hlt h)
    clear f
    have kz:(k:Int) < (d.size:Int):=by omega
    cases k with
    | zero =>
      have HB:Hid (qgn d 0=decide (d[0]!.1 < 1∨1000000 < d[0]!.2∨d[0]!.2 < d[0]!.1)):=by
       show _=_;unfold qgn;rw [decide_eq_decide];simp
      generalize d[0]! = x at f0 f1 HB
      simp only [Nat.add_zero,Nat.zero_mul,encR,List.getElem!_cons_zero,List.getElem!_cons_succ] at f0 f1
      clear hR
      by_cases t1:x.1 < 1
      ·go_wp2_with fail
       go_quiet (fail)
       go_wp2
       go_ret
       exact ⟨qaf (HBB.out (by rw [HB.out];simp;omega)).symm,_,World.drewN_drewN _ _ _⟩
      have t1b:decide (x.1 < 1)=false:=by simp;omega
      by_cases t2:1000000 < x.2
      ·go_wp2_with fail
       go_quiet (fail)
       go_wp2
       go_ret
       exact ⟨qaf (HBB.out (by rw [HB.out];simp;omega)).symm,_,World.drewN_drewN _ _ _⟩
      have t2b:decide (1000000 < x.2)=false:=by simp;omega
      by_cases t3:x.2 < x.1
      ·go_wp2_with fail
       go_quiet (fail)
       go_wp2
       go_ret
       exact ⟨qaf (HBB.out (by rw [HB.out];simp;omega)).symm,_,World.drewN_drewN _ _ _⟩
      have t3b:decide (x.2 < x.1)=false:=by simp;omega
      go_wp2_with fail
      go_quiet (fail)
      go_wp2
      go_roundw
      case rel=>exact ⟨1,_,by omega,rfl,rfl,fun j hj=>by
       obtain rfl:j=0:=by omega
       rw [HB.out];simp;omega⟩
      case measure=>simp [intOf];omega
    | succ m =>
      have HB:Hid (qgn d (m + 1)=decide (d[m + 1]!.1 < 1∨1000000 < d[m + 1]!.2∨d[m + 1]!.2 < d[m + 1]!.1∨d[m + 1]!.1 - 1≤d[m]!.2)):=by
       show _=_;unfold qgn;rw [decide_eq_decide];simp
      obtain ⟨b',off',e',_,f'⟩:=hR.at_ (i:=m) (by omega)
      injection e' with e'
      injection e' with e1 e2
      subst e1 e2
      have f2:=f' 1 (by omega)
      clear f' hR
      generalize d[m + 1]! = x at f0 f1 HB
      generalize d[m]! = y at f2 HB
      simp only [Nat.add_zero,encR,List.getElem!_cons_zero,List.getElem!_cons_succ] at f0 f1 f2
      have p0:(0:Int)≤(m:Int) + 1:=by omega
      have p1:(0:Int) < (m:Int) + 1:=by omega
      have e0:((m:Int) + 1).toNat=m + 1:=by omega
      have hwp:IntKind.i64.wrap (m:Int)=(m:Int):=by rw [IntKind.wrap_i64];omega
      have mz:(m:Int) < (d.size:Int):=by omega
      by_cases t1:x.1 < 1
      ·go_wp2_with fail
       go_quiet (fail)
       go_wp2
       go_ret
       exact ⟨qaf (HBB.out (by rw [HB.out];simp;omega)).symm,_,World.drewN_drewN _ _ _⟩
      have t1b:decide (x.1 < 1)=false:=by simp;omega
      by_cases t2:1000000 < x.2
      ·go_wp2_with fail
       go_quiet (fail)
       go_wp2
       go_ret
       exact ⟨qaf (HBB.out (by rw [HB.out];simp;omega)).symm,_,World.drewN_drewN _ _ _⟩
      have t2b:decide (1000000 < x.2)=false:=by simp;omega
      by_cases t3:x.2 < x.1
      ·go_wp2_with fail
       go_quiet (fail)
       go_wp2
       go_ret
       exact ⟨qaf (HBB.out (by rw [HB.out];simp;omega)).symm,_,World.drewN_drewN _ _ _⟩
      have t3b:decide (x.2 < x.1)=false:=by simp;omega
      have hws:IntKind.i64.wrap (x.1 - 1)=x.1 - 1:=by rw [IntKind.wrap_i64];omega
      by_cases t4:x.1 - 1≤y.2
      ·go_wp2_with fail
       go_quiet (fail)
       go_wp2
       go_ret
       exact ⟨qaf (HBB.out (by rw [HB.out];simp;omega)).symm,_,World.drewN_drewN _ _ _⟩
      have t4b:decide (x.1 - 1≤y.2)=false:=by simp;omega
      go_wp2_with fail
      go_quiet (fail)
      go_wp2
      go_roundw
      case rel=>exact ⟨m + 1 + 1,_,by omega,by go_num,rfl,fun j hj=>by
       rcases Nat.lt_or_ge j (m + 1) with h' | h'
       ·exact HJ.out j h'
       ·obtain rfl:j=m + 1:=by omega
        rw [HB.out];simp;omega⟩
      case measure=>simp [intOf];omega
   ·go_wp2
    go_ret
    exact ⟨qaf (HOK.out fun j hj=>HJ.out j (by omega)).symm,q,rfl⟩
end Go.Proofs.YtnmojicfmcbgmaaGreatDoor
namespace Go.Proofs.YtnmojicfmcbgmaaGreatDoor
open Go.RowKit Go.Sort Go.Lib
def qec (n:Int) (x:Int×Int):Bool:=decide (x.1≤n∧n≤x.2)
def inR (d:Array (Int×Int)) (n:Int):Bool:=d.toList.any (qec n)
theorem inR_yes {d:Array (Int×Int)} {n:Int} {j:Nat} (hj:j < d.size) (h:qec n d[j]! = true):inR d n=true:=by
 unfold inR;rw [List.any_eq_true];exact ⟨d[j]!,by rw [getElem!_pos d j hj];simp,h⟩
theorem inR_no {d:Array (Int×Int)} {n:Int} (h:∀ j,j < d.size→qec n d[j]! = false):inR d n=false:=by
 unfold inR;rw [List.any_eq_false]
 intro x hx
 obtain ⟨j,hj,rfl⟩:=List.mem_iff_getElem.1 hx
 have:=h j (by simpa using hj)
 rw [getElem!_pos d j (by simpa using hj)] at this
 simpa using this
theorem ok_at {d:Array (Int×Int)} (h:qaw d=0) {k:Nat} (hk:k < d.size):1≤d[k]!.1∧d[k]!.1≤d[k]!.2∧d[k]!.2≤1000000∧(0 < k→d[k - 1]!.2 + 1 < d[k]!.1):=by
 have:=(qel h).2 k hk
 unfold qgn at this
 rw [decide_eq_false_iff_not] at this
 refine ⟨by omega,by omega,by omega,fun h0=>by omega⟩
theorem qwe (A:Option Addr) (c:Nat) (d:Array (Int×Int)) (w:World) (h:RdK encR 2 w.heap.size w A d) :
 Calls Tryz.prog 204 #[.slice A d.size c] w fun e w'=>e=.returned (.bool (qaw d == 0))∧Below w.heap.size w w':=by
 go_enter Tryz.func204,Tryz.ntmps204
 go_wp2_with (go_at_call 165;refine (qka _ _ d _ h).mono ?_;rintro e w' ⟨rfl,hb⟩)
 go_ret
 exact ⟨rfl,hb⟩
theorem has1_any (n:Int) (x:Int×Int) (a:Addr) (w:World) (ha:a.block < w.heap.size) (hc:w.cell? a=some (.int .i64 n)) :
 Calls Tryz.prog 206 #[.agg #[.int .i64 x.1,.int .i64 x.2],.pointer (some a)] w fun e w'=>e=.returned (.bool (qec n x))∧Below w.heap.size w w':=by
 have hc':∀ o,(w.alloc o).cell? a=some (.int .i64 n):=fun o=>(World.cell?_alloc_lt w o a ha).trans hc
 go_enter Tryz.func206,Tryz.ntmps206
 go_wp2
 all_goals
  go_ret
  refine ⟨qag ?_,bel1 _ _⟩
  unfold qec
  first | (rw [Bool.eq_iff_iff,decide_eq_true_iff,decide_eq_true_iff];omega) | (symm;rw [decide_eq_true_iff];omega) | (symm;rw [decide_eq_false_iff_not];omega)
set_option maxHeartbeats 1000000 in
theorem qtm (A:Option Addr) (c:Nat) (fv:Value) (w:World) :
 Calls Tryz.prog 205 #[.slice A 0 c,fv] w fun e w'=>e=.returned (.bool false)∧w=w':=by
 go_enter Tryz.func205,Tryz.ntmps205
 go_wp2
 refine wp_loop_rounds 1 ?_;rw [rounds_succ]
 go_wp2
 go_ret
 exact ⟨rfl,rfl⟩
theorem ContR (p:Int×Int→Bool) (g:Nat) (lb:Array Value) (A:Option Addr) (c:Nat) (d:Array (Int×Int)) (w:World) (h:RdK encR 2 w.heap.size w A d) (hd:d.size≤100000000) (eg:∀ args w,(callFunc g args).run Tryz.prog w=.ok (.enter g args) w) (hp:PredBelow Tryz.prog g lb (fun x:Int×Int=>.agg (encR x).toArray) p w) :
 Calls Tryz.prog 205 #[.slice A d.size c,.func (.func g) #[] lb] w fun e w'=>e=.returned (.bool (d.toList.any p))∧Below w.heap.size w w':=by
 rcases Nat.eq_zero_or_pos d.size with h0 | h0
 ·have e0:d=#[]:=Array.eq_empty_of_size_eq_zero h0
  subst e0
  exact (qtm A c _ w).mono fun e w' ⟨he,hw⟩=>⟨by rw [he];rfl,by rw [←hw];exact Below.refl _ _⟩
 ·obtain ⟨b,off,rfl,hb,hc⟩:=h h0
  have:=AnyQ.slices_ContainsFunc Tryz.laysContR 2 Tryz.isAgg141 Tryz.sizeOf141 encR (fun _=>rfl) p g lb eg b off d.size c d.toList w hp (by simp) (by omega) hb (fun j hj i v hv=>by
   have hj':j < d.size:=by simpa using hj
   have hi:i < 2:=by
    rcases Nat.lt_or_ge i 2 with h' | h'
    ·exact h'
    ·rw [List.getElem?_eq_none (by show 2≤i;exact h')] at hv;cases hv
   have e1:d.toList[j]! = d[j]!:=by simp [hj']
   rw [e1] at hv
   rw [Nat.add_assoc,hc _ (qtj hj' hi),qpd _ _ _ _ _ hj' hi]
   rw [List.getElem!_eq_getElem?_getD,hv];rfl)
  rwa [show d.toList.take d.size=d.toList from List.take_of_length_le (by simp)] at this
def qcf (d:Array (Int×Int)) (n:Int):Bool:=(qaw d == 0) && inR d n
set_option maxHeartbeats 1000000 in
theorem gHas_any (A:Option Addr) (c:Nat) (d:Array (Int×Int)) (n:Int) (w:World) (h:RdK encR 2 w.heap.size w A d) :
 Calls Tryz.prog 184 #[.slice A d.size c,.int .i64 n] w fun e w'=>e=.returned (.bool (qcf d n))∧Below w.heap.size w w':=by
 have r0:=hI ((h.alloc (Nat.le_refl _) (.cells #[.int .i64 n] 3)).mono (show w.heap.size≤(w.alloc (.cells #[.int .i64 n] 3)).heap.size by simp))
 by_cases hs:qaw d=0
 ·have hq:(qaw d == 0)=true:=by simp [hs]
  have hd:=(qel hs).1
  have HH:Hid (qcf d n=inR d n):=by show _=_;unfold qcf;rw [hq];rfl
  clear hs
  go_enter Tryz.func184,Tryz.ntmps184
  go_wp2_with fail
  refine (qwe _ _ d _ r0.out).mono ?_
  rintro e w1 ⟨rfl,hb1⟩
  have hz1:w.heap.size < w1.heap.size:=by have:=hb1.size;simp at this;omega
  have hc1:w1.cell? ⟨w.heap.size,0,none⟩=some (.int .i64 n):=(hb1.cell (p:=⟨w.heap.size,0,none⟩) (by simp)).trans (qco w _ _ 0)
  have hC:Calls Tryz.prog 205 #[.slice A d.size c,.func (.func 206) #[] #[.pointer (some ⟨w.heap.size,0,none⟩)]] w1 fun e w'=>e=.returned (.bool (inR d n))∧Below w1.heap.size w1 w':=ContR (qec n) 206 #[.pointer (some ⟨w.heap.size,0,none⟩)] A c d w1 ((r0.out.below hb1).mono hb1.size) (by omega) (enters_of Tryz.func206 (by kernel_rfl) rfl)
   (fun W x hbW=>(has1_any n x ⟨w.heap.size,0,none⟩ W (Nat.lt_of_lt_of_le hz1 hbW.size) ((hbW.cell (p:=⟨w.heap.size,0,none⟩) hz1).trans hc1)).mono fun _ _ ⟨he,hb'⟩=>⟨he,hbW.trans (hb'.mono hbW.size)⟩)
  have HC:=hI hC
  clear hC hc1
  generalize inR d n=v at HC HH
  go_wp2_with fail
  refine HC.out.mono ?_
  rintro e w2 ⟨rfl,hb2⟩
  go_wp2
  go_ret
  exact ⟨qag HH.out.symm,qac (qac (bel1 _ _) hb1) hb2⟩
 ·have hq:(qaw d == 0)=false:=by simpa using hs
  have HH:Hid (qcf d n=false):=by show _=_;unfold qcf;rw [hq];rfl
  clear hs
  go_enter Tryz.func184,Tryz.ntmps184
  go_wp2_with fail
  refine (qwe _ _ d _ r0.out).mono ?_
  rintro e w1 ⟨rfl,hb1⟩
  go_wp2
  go_ret
  exact ⟨qag HH.out.symm,qac (bel1 _ _) hb1⟩
set_option maxHeartbeats 1000000 in
theorem rin_any (A:Option Addr) (c:Nat) (d:Array (Int×Int)) (n:Int) (B:Nat) (w:World) (h:RdK encR 2 B w A d) (hd:d.size≤100000000) :
 Calls Tryz.prog 197 #[.slice A d.size c,.int .i64 n] w fun e w'=>e=.returned (.bool (inR d n))∧w=w':=by
 have HY:=hI (fun j hj hb=>@inR_yes d n j hj hb)
 have HN:=hI (@inR_no d n)
 go_enter Tryz.func197,Tryz.ntmps197
 go_wp2
 go_loop [5] (fun i=>∃ k:Nat,k≤d.size∧i=.int .i64 k∧∀ j,j < k→qec n d[j]! = false) (fun i=>d.size - (intOf i).toNat)
 case atStart=>exact ⟨0,Nat.zero_le _,rfl,fun j hj=>absurd hj (by omega)⟩
 case round =>
  obtain ⟨k,hk,rfl,hj⟩:=hrel
  have HJ:=hI hj;clear hj
  by_cases hlt:k < d.size
  ·obtain ⟨b,off,rfl,_,f⟩:=h.at_ hlt
   have f0:=f 0 (by omega)
   have f1:=f 1 (by omega)
   have HB:Hid (qec n d[k]! = decide (d[k]!.1≤n∧n≤d[k]!.2)):=rfl
   have HYk:=hI (HY.out k hlt)
   have HNk:Hid (qec n d[k]! = false→∀ j,j < k + 1→qec n d[j]! = false):=fun hf j hj=>by
    rcases Nat.lt_or_ge j k with h' | h'
    ·exact HJ.out j h'
    ·obtain rfl:j=k:=by omega
     exact hf
   generalize d[k]! = x at f0 f1 HB HYk HNk
   simp only [Nat.add_zero,encR,List.getElem!_cons_zero,List.getElem!_cons_succ] at f0 f1
   clear f
   have kz:(k:Int) < (d.size:Int):=by omega
   go_wp2
   all_goals first
    | (go_ret;exact ⟨qag (HYk.out (by rw [HB.out];simp;omega)).symm,rfl⟩)
    | exact ⟨⟨k + 1,by omega,by go_num,HNk.out (by rw [HB.out];simp;omega)⟩,by simp [intOf];omega⟩
  ·go_wp2
   go_ret
   exact ⟨qag (HN.out fun j hj=>HJ.out j (by omega)).symm,rfl⟩
theorem r4Has_any (A:Option Addr) (c:Nat) (d:Array (Int×Int)) (n:Int) (B:Nat) (w:World) (h:RdK encR 2 B w A d) :
 Calls Tryz.prog 176 #[.slice A d.size c,.int .i64 n] w fun e w'=>e=.returned (.bool (qcf d n))∧Below w.heap.size w w':=by
 by_cases hs:qaw d=0
 ·have hq:(qaw d == 0)=true:=by simp [hs]
  have hd:=(qel hs).1
  have HH:Hid (qcf d n=inR d n):=by show _=_;unfold qcf;rw [hq];rfl
  clear hs
  go_enter Tryz.func176,Tryz.ntmps176
  go_wp2_with fail
  refine (qgg _ _ d _ _ h).mono ?_
  rintro e w1 ⟨rfl,q,rfl⟩
  go_wp2_with fail
  refine (rin_any _ _ d _ B _ (by exact h) (by omega)).mono ?_
  rintro e w2 ⟨rfl,rfl⟩
  go_wp2
  go_ret
  exact ⟨qag HH.out.symm,qax (Below.refl _ _) _⟩
 ·have hq:(qaw d == 0)=false:=by simpa using hs
  have HH:Hid (qcf d n=false):=by show _=_;unfold qcf;rw [hq];rfl
  clear hs
  go_enter Tryz.func176,Tryz.ntmps176
  go_wp2_with fail
  refine (qgg _ _ d _ _ h).mono ?_
  rintro e w1 ⟨rfl,q,rfl⟩
  go_wp2
  go_ret
  exact ⟨qag HH.out.symm,qax (Below.refl _ _) _⟩
end Go.Proofs.YtnmojicfmcbgmaaGreatDoor
namespace Go.Proofs.YtnmojicfmcbgmaaGreatDoor
open Go.RowKit Go.Sort Go.Lib
def preB (b:Int) (x:Int×Int):Bool:=decide (x.1 - 1≤b∧b < x.2)
def preE (d:Array (Int×Int)) (b:Int):Int:=if qaw d=0 then ((d.toList.find? (preB b)).map (·.2)).getD b else b
end Go.Proofs.YtnmojicfmcbgmaaGreatDoor
namespace Go.Proofs.YtnmojicfmcbgmaaGreatDoor
open Go.RowKit Go.Sort
def qnr (x:Int):Value:=.int .i64 x
def RdI_R (B:Nat) (w:World) (A:Option Addr) (d:Array Int):Prop :=
 0 < d.size→∃ b off,A=some ⟨b,off,none⟩∧b < B∧∀ i,i < d.size→w.cell? ⟨b,off + i,none⟩=some (.int .i64 d[i]!)
section
variable {w w':World} {A:Option Addr} {d:Array Int} {B:Nat}
theorem RdI_R.below (h:RdI_R B w A d) (hb:Below B w w'):RdI_R B w' A d:=fun h0=>by
 obtain ⟨b,off,e,hlt,hc⟩:=h h0
 exact ⟨b,off,e,hlt,fun t ht=>(hb.cell (p:=⟨b,off + t,none⟩) hlt).trans (hc t ht)⟩
theorem RdI_R.mono {B':Nat} (h:RdI_R B w A d) (hB:B≤B'):RdI_R B' w A d:=fun h0=>by
 obtain ⟨b,off,e,hlt,hc⟩:=h h0
 exact ⟨b,off,e,by omega,hc⟩
theorem RdI_R.alloc (h:RdI_R B w A d) (hB:B≤w.heap.size) (o:Obj):RdI_R B (w.alloc o) A d:=h.below ((Below.refl _ _).alloc hB o)
theorem RdI_R.at_ (h:RdI_R B w A d) {i:Nat} (hi:i < d.size):∃ b off,A=some ⟨b,off,none⟩∧b < B∧w.cell? ⟨b,off + i,none⟩=some (.int .i64 d[i]!):=by
 obtain ⟨b,off,e,hlt,hc⟩:=h (by omega)
 exact ⟨b,off,e,hlt,hc i hi⟩
theorem RdI_R.none_:RdI_R B w A #[]:=fun h=>absurd h (by decide)
theorem RdI_R.new (w:World) (d:Array Int) (e:TypeId) (cs:Array Value) (h:cs=d.map qnr):RdI_R (w.heap.size + 1) (w.alloc (.cells cs e)) (some ⟨w.heap.size,0,none⟩) d:=fun _ =>
 ⟨_,_,rfl,Nat.lt_succ_self _,fun i hi=>by
  rw [qco,Nat.zero_add,h,Array.getElem?_map,Array.getElem?_eq_getElem hi,getElem!_pos _ i hi];rfl⟩
end
def qgh (n:Int):Int:=if n < 3∨9 < n then 0 else n / 2 + 1
def qza (n:Int):Bool:=decide (3≤n∧n≤9)
theorem qhl (n:Int) (w:World) :
 Calls Tryz.prog 179 #[.int .i64 n] w fun e w'=>e=.returned (.bool (qza n))∧w=w':=by
 go_enter Tryz.func179,Tryz.ntmps179
 go_wp2
 all_goals
  go_ret
  exact ⟨qag (by unfold qza;simp <;> omega),rfl⟩
theorem qrn {n:Int} (h:3≤n) (h':n≤9):qza n=true:=by unfold qza;simp;omega
theorem qwf {n:Int} (h:n < 3∨9 < n):qza n=false:=by unfold qza;simp;omega
theorem qgi (n:Int) (w:World) :
 Calls Tryz.prog 187 #[.int .i64 n] w fun e w'=>e=.returned (.int .i64 (qgh n))∧w=w':=by
 by_cases h:n < 3∨9 < n
 ·have hm:=qwf h
  have HM:Hid (qgh n=0):=by show _=_;unfold qgh;rw [if_pos h]
  clear h
  go_enter Tryz.func187,Tryz.ntmps187
  go_wp2_with (go_at_call 179;refine (qhl _ _).mono ?_;rintro e w' ⟨rfl,rfl⟩)
  go_ret
  exact ⟨qaf HM.out.symm,rfl⟩
 ·have h1:3≤n:=by omega
  have h2:n≤9:=by omega
  have hm:=qrn h1 h2
  have HM:Hid (qgh n=n / 2 + 1):=by show _=_;unfold qgh;rw [if_neg h]
  clear h
  go_enter Tryz.func187,Tryz.ntmps187
  go_wp2_with (go_at_call 179;refine (qhl _ _).mono ?_;rintro e w' ⟨rfl,rfl⟩)
  go_ret
  exact ⟨qaf HM.out.symm,rfl⟩
theorem qmg (n:Int) (w:World) :
 Calls Tryz.prog 174 #[.int .i64 n] w fun e w'=>e=.returned (.int .i64 (qgh n))∧w=w':=by
 go_enter Tryz.func174,Tryz.ntmps174
 go_wp2
 all_goals
  go_ret
  exact ⟨qaf (by unfold qgh;split <;> omega),rfl⟩
end Go.Proofs.YtnmojicfmcbgmaaGreatDoor
namespace Go.Proofs.YtnmojicfmcbgmaaGreatDoor
open Go.RowKit Go.Sort Go.Lib
theorem qzb (d:Array Int) (j:Nat):d.toList[j]! = d[j]!:=by
 by_cases h:j < d.size <;> simp [h]
theorem ContI (p:Int→Bool) (g:Nat) (lb:Array Value) (A:Option Addr) (c:Nat) (d:Array Int) (B:Nat) (w:World) (h:RdI_R B w A d) (hd:d.size≤100000000) (eg:∀ args w,(callFunc g args).run Tryz.prog w=.ok (.enter g args) w) (hp:PredAt Tryz.prog g lb qnr p w) :
 Calls Tryz.prog 189 #[.slice A d.size c,.func (.func g) #[] lb] w fun e w'=>e=.returned (.bool (d.toList.any p))∧∃ q,w'=w.drewN q:=by
 rcases Nat.eq_zero_or_pos d.size with h0 | h0
 ·have e0:d=#[]:=Array.eq_empty_of_size_eq_zero h0
  subst e0
  exact (Tryz.slices_ContainsFunc_empty (α:=Int) A c _ w).mono fun e w' ⟨he,hw⟩=>⟨by rw [he];rfl,0,hw⟩
 ·obtain ⟨b,off,rfl,_,hc⟩:=h h0
  have:=Tryz.slices_ContainsFunc qnr p g lb eg b off d.size c d.toList w hp (by simp) (by omega) (fun j hj=>by rw [hc j (by simpa using hj),qzb];rfl)
  rwa [show d.toList.take d.size=d.toList from List.take_of_length_le (by simp)] at this
theorem qms {w:World} {base:Nat} {e:TypeId} {v:Value} {d:Array Int} (h:w.ownsRow base e 1 v d.size (d.toList.map (Value.int .i64))) (hn:v≠.slice none 0 0) :
 ∃ g cap,v=.slice (some ⟨g,0,none⟩) d.size cap∧base≤g∧g < w.heap.size∧Holds qnr w g 0 d:=by
 obtain ⟨_,⟨h1,_⟩ | ⟨g,cap,cur,hv,hb,hh,hnc,hmx,hcur,htk⟩⟩:=h
 ·exact absurd h1 hn
 ·have hlt:g < w.heap.size:=by
   rcases Nat.lt_or_ge g w.heap.size with h | h
   ·exact h
   ·rw [Array.getElem?_eq_none h] at hh;cases hh
  refine ⟨g,cap,hv,hb,hlt,fun t ht=>?_⟩
  have e1:cur.toList[t]?=(d.toList.map (Value.int .i64))[t]?:=by rw [←htk,List.getElem?_take_of_lt (by omega)]
  rw [List.getElem?_map,Array.getElem?_toList,Array.getElem?_toList,Array.getElem?_eq_getElem ht] at e1
  refine ⟨?_,by simp [World.frozen?,hh]⟩
  rw [getElem!_pos d t ht]
  simp [World.cell?,hh,e1,qnr]
def qcx (t:Int):Bool:=decide (t < 0∨1000000 < t)
theorem none1_any (t:Int) (w:World) :
 Calls Tryz.prog 188 #[.int .i64 t] w fun e w'=>e=.returned (.bool (qcx t))∧w=w':=by
 go_enter Tryz.func188,Tryz.ntmps188
 go_wp2
 all_goals
  go_ret
  refine ⟨qag ?_,rfl⟩
  unfold qcx
  first | (rw [Bool.eq_iff_iff,decide_eq_true_iff,decide_eq_true_iff];omega) | (symm;rw [decide_eq_true_iff];omega) | (symm;rw [decide_eq_false_iff_not];omega)
theorem qzc (w:World):PredAt Tryz.prog 188 #[] qnr qcx w:=fun W x _ =>
 (none1_any x W).mono fun _ _ ⟨he,hw⟩=>⟨he,0,hw.symm⟩
def qbl (d:Array Int) (n:Int):Int:=if qgh n=0∨(d.size:Int)≠n∨d.toList.any qcx=true then 2 else 0
set_option maxHeartbeats 1000000 in
theorem qns (A:Option Addr) (c:Nat) (d:Array Int) (n:Int) (B:Nat) (w:World) (h:RdI_R B w A d) (hd:d.size≤100000000) :
 Calls Tryz.prog 163 #[.slice A d.size c,.int .i64 n] w fun e w'=>e=.returned (.int .i64 (qbl d n))∧Below w.heap.size w w':=by
 have HC:=fun W hW=>hI (ContI qcx 188 #[] A c d B W hW hd (enters_of Tryz.func188 (by kernel_rfl) rfl) (qzc W))
 have HCC:=hI (HC w h)
 clear HC
 by_cases h1:qgh n=0
 ·have HM:Hid (qbl d n=2):=by show _=_;unfold qbl;rw [if_pos (Or.inl h1)]
  clear HCC
  go_enter Tryz.func163,Tryz.ntmps163
  go_wp2_with (go_at_call 187;refine (qgi _ _).mono ?_;rintro e w' ⟨rfl,rfl⟩)
  go_ret
  exact ⟨qaf HM.out.symm,Below.refl _ _⟩
 by_cases h2:(d.size:Int)≠n
 ·have HM:Hid (qbl d n=2):=by show _=_;unfold qbl;rw [if_pos (Or.inr (Or.inl h2))]
  have b1:(qgh n == 0)=false:=by simpa using h1
  have b2:((d.size:Int) != n)=true:=by simpa using h2
  clear h1 h2 HCC
  go_enter Tryz.func163,Tryz.ntmps163
  go_wp2_with (go_at_call 187;refine (qgi _ _).mono ?_;rintro e w' ⟨rfl,rfl⟩)
  go_ret
  exact ⟨qaf HM.out.symm,Below.refl _ _⟩
 have b1:(qgh n == 0)=false:=by simpa using h1
 have b2:((d.size:Int) != n)=false:=by simpa using h2
 cases h3:d.toList.any qcx
 ·have HM:Hid (qbl d n=0):=by show _=_;unfold qbl;rw [if_neg (by simp [h1,h3];simpa using h2)]
  rw [h3] at HCC
  clear h1 h2 h3
  go_enter Tryz.func163,Tryz.ntmps163
  go_wp2_with (first | (go_at_call 187;refine (qgi _ _).mono ?_;rintro e w' ⟨rfl,rfl⟩) | (go_at_call 189;refine HCC.out.out.mono ?_;rintro e w' ⟨rfl,q,rfl⟩))
  go_ret
  exact ⟨qaf HM.out.symm,qax (Below.refl _ _) _⟩
 ·have HM:Hid (qbl d n=2):=by show _=_;unfold qbl;rw [if_pos (Or.inr (Or.inr h3))]
  rw [h3] at HCC
  clear h1 h2 h3
  go_enter Tryz.func163,Tryz.ntmps163
  go_wp2_with (first | (go_at_call 187;refine (qgi _ _).mono ?_;rintro e w' ⟨rfl,rfl⟩) | (go_at_call 189;refine HCC.out.out.mono ?_;rintro e w' ⟨rfl,q,rfl⟩))
  go_ret
  exact ⟨qaf HM.out.symm,qax (Below.refl _ _) _⟩
end Go.Proofs.YtnmojicfmcbgmaaGreatDoor
namespace Go.Proofs.YtnmojicfmcbgmaaGreatDoor
open Go.RowKit Go.Sort Go.Lib
theorem qro {α:Type} [Inhabited α] {d1 d2:Array α} (hs:d1.size=d2.size) (h:∀ j,j < d1.size→d1[j]! = d2[j]!):d1=d2 :=
 Array.ext hs fun t h1 h2=>by have:=h t h1;rwa [getElem!_pos d1 t h1,getElem!_pos d2 t h2] at this
set_option maxHeartbeats 1000000 in
theorem qhw (A1 A2:Option Addr) (c1 c2:Nat) (d1 d2:Array Int) (B1 B2:Nat) (w:World) (h1:RdI_R B1 w A1 d1) (h2:RdI_R B2 w A2 d2) (hm:d2.size≤100000000) :
 Calls Tryz.prog 106 #[.slice A1 d1.size c1,.slice A2 d2.size c2] w fun e w'=>e=.returned (.bool (decide (d1=d2)))∧∃ n,w'=w.drewN n:=by
 by_cases hs:d1.size=d2.size
 ·have hb:((d1.size:Int) != (d2.size:Int))=false:=by simp [hs]
  have HS:=hI hs
  have hge:d1.size≤d2.size:=by omega
  clear hs
  go_enter Tryz.func106,Tryz.ntmps106
  go_wp2
  go_loopw [5] (fun i wr=>∃ k n:Nat,k≤d1.size∧i=.int .i64 k∧wr=w.drewN n∧∀ j,j < k→d1[j]! = d2[j]!) (fun i _=>d1.size - (intOf i).toNat)
  case atStart=>exact ⟨0,0,Nat.zero_le _,rfl,rfl,fun j hj=>absurd hj (by omega)⟩
  case round =>
   obtain ⟨k,n,hk,rfl,rfl,hj⟩:=hrel
   have HJ:=hI hj;clear hj
   by_cases hlt:k < d1.size
   ·obtain ⟨b1,o1,rfl,_,f1⟩:=h1.at_ hlt
    obtain ⟨b2,o2,rfl,_,f2⟩:=h2.at_ (i:=k) (by omega)
    have HX:Hid (k < d1.size):=hlt
    generalize hx:d1[k]! = x at f1
    generalize hy:d2[k]! = y at f2
    have HXX:=hI hx;clear hx
    have HYY:=hI hy;clear hy
    have kz:(k:Int) < (d1.size:Int):=by omega
    have kz2:(k:Int) < (d2.size:Int):=by omega
    by_cases hxy:x=y
    ·subst hxy
     go_wp2
     go_quiet (fail)
     go_wp2
     go_roundw
     case rel=>exact ⟨k + 1,_,by omega,by go_num,rfl,fun j hj=>by
      rcases Nat.lt_or_ge j k with h | h
      ·exact HJ.out j h
      ·obtain rfl:j=k:=by omega
       rw [HXX.out,HYY.out]⟩
     case measure=>simp [intOf];omega
    ·have hd:(x != y)=true:=by simp [hxy]
     have HXY:=hI hxy;clear hxy
     go_wp2
     go_quiet (fail)
     go_wp2
     go_ret
     exact ⟨qag (by symm;rw [decide_eq_false_iff_not];rintro rfl;exact HXY.out (by rw [←HXX.out,←HYY.out])),_,World.drewN_drewN _ _ _⟩
   ·go_wp2
    go_ret
    exact ⟨qag (by symm;rw [decide_eq_true_iff];exact qro HS.out fun j hj=>HJ.out j (by omega)),n,rfl⟩
 ·have hb:((d1.size:Int) != (d2.size:Int))=true:=by simp;omega
  have HS:=hI hs;clear hs
  go_enter Tryz.func106,Tryz.ntmps106
  go_wp2
  go_ret
  exact ⟨qag (by symm;rw [decide_eq_false_iff_not];rintro rfl;exact HS.out rfl),0,rfl⟩
def leastN (d:Array Int):Int:=Lib.minOf d.toList
end Go.Proofs.YtnmojicfmcbgmaaGreatDoor
namespace Go.Proofs.YtnmojicfmcbgmaaGreatDoor
open Go.RowKit Go.Sort Go.Lib
theorem qnt:(Tryz.prog.info? 3).map (fun i=>(i.zero,i.size,i.bytes))=some (some (.int .i64 0),1,8):=by kernel_rfl
theorem qdm {w:World} {base:Nat} {e:TypeId} {v:Value} {l:List Int} (h:w.ownsRow base e 1 v l.length (l.map (Value.int .i64))) :
 ∃ A c,v=.slice A l.length c∧RdI_R w.heap.size w A l.toArray:=by
 rcases Nat.eq_zero_or_pos l.length with h0 | h0
 ·have:l=[]:=List.eq_nil_of_length_eq_zero h0
  subst this
  obtain ⟨_,⟨rfl,_⟩ | ⟨g,cap,cur,hv,_⟩⟩:=h
  ·exact ⟨none,0,rfl,RdI_R.none_⟩
  ·exact ⟨_,cap,hv,RdI_R.none_⟩
 ·have hn:v≠.slice none 0 0:=by
   rintro rfl
   obtain ⟨_,⟨_,h1⟩ | ⟨g,cap,cur,hv,_⟩⟩:=h
   ·omega
   ·cases hv
  have h':w.ownsRow base e 1 v l.toArray.size (l.toArray.toList.map (Value.int .i64)):=h
  obtain ⟨g,cap,hv,_,hlt,hH⟩:=qms h' hn
  exact ⟨_,cap,hv,fun _=>⟨g,0,rfl,hlt,fun i hi=>(hH i hi).1⟩⟩
theorem own_snoc {w:World} {base:Nat} {e:TypeId} {v:Value} {l:List Int} {x:Int} (h:w.ownsRow base e 1 v (l.length + 1) (l.map (Value.int .i64) ++ [.int .i64 x])):w.ownsRow base e 1 v (l ++ [x]).length ((l ++ [x]).map (Value.int .i64)):=by
 simpa using h
theorem qgz {w:World} {base:Nat} {e:TypeId} {s n:Nat} {v:Value} {xs:List Value} (h:w.ownsRow base e s v n xs) (k:Nat) (hk:v.ownBlock=some k):base≤k:=by
 obtain ⟨_,⟨rfl,_⟩ | ⟨g,cap,cur,rfl,hb,_⟩⟩:=h
 ·cases hk
 ·have:g=k:=by simpa [Value.ownBlock] using hk
  omega
theorem qwg (w:World) (x:Value) (e:TypeId) (j:Nat) (u:Value) (h:[x][j]?=some u):(w.alloc (.cells #[x] e)).cell? (Addr.add ⟨w.heap.size,0,none⟩ j)=some u:=by
 have hj:j=0:=by
  rcases Nat.eq_zero_or_pos j with h0 | h0
  ·exact h0
  ·obtain ⟨i,rfl⟩:∃ i,j=i + 1:=⟨j - 1,by omega⟩
   simp at h
 subst hj
 have:x=u:=by simpa using h
 subst this
 exact qco w _ _ 0
theorem qrp {w wr w1:World} {o:Obj} {e:TypeId} {s n:Nat} {v:Value} {xs:List Value} (hb:Below w.heap.size w wr) (hown:wr.ownsRow w.heap.size e s v n xs) (hg:(wr.alloc o).grownBy w1 v.ownBlock):Below w.heap.size w w1 :=
 (qad hb o).grown hg (qad hb o).size (qgz hown)
end Go.Proofs.YtnmojicfmcbgmaaGreatDoor
namespace Go.Proofs.YtnmojicfmcbgmaaGreatDoor
open Go.RowKit Go.Sort Go.Lib
def mrgAt (d1 d2:Array Int) (i:Nat):Int:=if i < d1.size then (if i < d2.size then max d1[i]! d2[i]! else d1[i]!) else d2[i]!
def qkg (d1 d2:Array Int):Array Int:=((List.range (max d1.size d2.size)).map (mrgAt d1 d2)).toArray
theorem qgj (d1 d2:Array Int):(qkg d1 d2).size=max d1.size d2.size:=by simp [qkg]
theorem mergeN_at (d1 d2:Array Int) (i:Nat) (h:i < max d1.size d2.size):(qkg d1 d2)[i]! = mrgAt d1 d2 i:=by
 rw [getElem!_pos _ i (by rw [qgj];exact h)];simp [qkg]
end Go.Proofs.YtnmojicfmcbgmaaGreatDoor
namespace Go.Proofs.YtnmojicfmcbgmaaGreatDoor
open Go.RowKit Go.Sort Go.Lib
theorem qzd {d:Array Int} (h:∀ j,j < d.size→qcx d[j]! = false):d.toList.any qcx=false:=by
 rw [List.any_eq_false]
 intro x hx
 obtain ⟨j,hj,rfl⟩:=List.mem_iff_getElem.1 hx
 have:=h j (by simpa using hj)
 rw [getElem!_pos d j (by simpa using hj)] at this
 simpa using this
theorem qtn {d:Array Int} {j:Nat} (hj:j < d.size) (h:qcx d[j]! = true):d.toList.any qcx=true:=by
 rw [List.any_eq_true]
 refine ⟨d[j]!,?_,h⟩
 rw [getElem!_pos d j hj]
 simp
set_option maxHeartbeats 1000000 in
theorem qkh (A:Option Addr) (c:Nat) (d:Array Int) (n:Int) (B:Nat) (w:World) (h:RdI_R B w A d) (hd:d.size≤100000000) :
 Calls Tryz.prog 126 #[.slice A d.size c,.int .i64 n] w fun e w'=>e=.returned (.int .i64 (qbl d n))∧w=w':=by
 by_cases h1:qgh n=0
 ·have HM:Hid (qbl d n=2):=by show _=_;unfold qbl;rw [if_pos (Or.inl h1)]
  go_enter Tryz.func126,Tryz.ntmps126
  go_wp2_with (go_at_call 174;refine (qmg _ _).mono ?_;rintro e w' ⟨rfl,rfl⟩)
  go_ret
  exact ⟨qaf HM.out.symm,rfl⟩
 by_cases h2:(d.size:Int)≠n
 ·have HM:Hid (qbl d n=2):=by show _=_;unfold qbl;rw [if_pos (Or.inr (Or.inl h2))]
  have b1:(qgh n == 0)=false:=by simpa using h1
  have b2:((d.size:Int) != n)=true:=by simpa using h2
  clear h1 h2
  go_enter Tryz.func126,Tryz.ntmps126
  go_wp2_with (go_at_call 174;refine (qmg _ _).mono ?_;rintro e w' ⟨rfl,rfl⟩)
  go_ret
  exact ⟨qaf HM.out.symm,rfl⟩
 obtain rfl:(d.size:Int)=n:=by omega
 have b1:(qgh (d.size:Int) == 0)=false:=by simpa using h1
 have HM1:Hid ((∀ j,j < d.size→qcx d[j]! = false)→qbl d d.size=0):=fun hj=>by
  unfold qbl;rw [if_neg];simp [h1,qzd hj]
 have HM2:Hid (∀ j,j < d.size→qcx d[j]! = true→qbl d d.size=2):=fun j hj hb=>by
  unfold qbl;rw [if_pos];exact Or.inr (Or.inr (qtn hj hb))
 clear h1 h2
 go_enter Tryz.func126,Tryz.ntmps126
 go_wp2_with (go_at_call 174;refine (qmg _ _).mono ?_;rintro e w' ⟨rfl,rfl⟩)
 go_loop [5] (fun i=>∃ k:Nat,k≤d.size∧i=.int .i64 k∧∀ j,j < k→qcx d[j]! = false) (fun i=>d.size - (intOf i).toNat)
 case atStart=>exact ⟨0,Nat.zero_le _,rfl,fun j hj=>absurd hj (by omega)⟩
 case round =>
  obtain ⟨k,hk,rfl,hj⟩:=hrel
  have HJ:=hI hj;clear hj
  by_cases hlt:k < d.size
  ·obtain ⟨b,off,rfl,_,hc⟩:=h.at_ hlt
   generalize hx:d[k]! = x at hc
   have HX:=hI hx;clear hx
   by_cases hb:x < 0∨1000000 < x
   ·have HB:Hid (qcx x=true):=by show _=_;unfold qcx;simpa using hb
    by_cases hx0:x < 0
    ·go_wp2
     all_goals (go_ret;exact ⟨qaf (HM2.out k hlt (by rw [HX.out];exact HB.out)).symm,rfl⟩)
    ·have hx1:1000000 < x:=by omega
     have hx2:0≤x:=by omega
     clear hb hx0
     go_wp2
     all_goals (go_ret;exact ⟨qaf (HM2.out k hlt (by rw [HX.out];exact HB.out)).symm,rfl⟩)
   ·have HB:Hid (qcx x=false):=by show _=_;unfold qcx;simpa using hb
    have hx1:decide (1000000 < x)=false:=by simp;omega
    have hx2:decide (x < 0)=false:=by simp;omega
    clear hb
    go_wp2
    go_round
    case rel=>exact ⟨k + 1,by omega,by go_num,fun j hj=>by
     rcases Nat.lt_or_ge j k with h | h
     ·exact HJ.out j h
     ·obtain rfl:j=k:=by omega
      rw [HX.out];exact HB.out⟩
    case measure=>simp [intOf];omega
  ·go_wp2
   all_goals (go_ret;exact ⟨qaf (HM1.out fun j hj=>HJ.out j (by omega)).symm,rfl⟩)
end Go.Proofs.YtnmojicfmcbgmaaGreatDoor
