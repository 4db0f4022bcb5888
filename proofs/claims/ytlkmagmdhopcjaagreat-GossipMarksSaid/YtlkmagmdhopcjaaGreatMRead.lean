/- Texts that the law leans on. -/
import Derived.Shelf.GgSortFunc.RowK
import Derived.Test.YtlkmagmdhopcjaaGreatMBase
import Derived.BigGuardPart
import Derived.Laws.StructEq
import Derived.Test.YtlkmagmdhopcjaaGreatShelf
import Derived.OwnWalk
import Derived.BigRegion
namespace Go.Proofs.YtlkmagmdhopcjaaGreat
open Go.RowKit Go.Sort
section
variable {α:Type} [Inhabited α] {enc:α→List Value} {k:Nat} {w w':World} {A:Option Addr} {d:Array α} {B:Nat}
def RdK (enc:α→List Value) (k:Nat) (B:Nat) (w:World) (A:Option Addr) (d:Array α):Prop :=
 0 < d.size→∃ b off,A=some ⟨b,off,none⟩∧b < B∧∀ t,t < d.size * k→w.cell? ⟨b,off + t,none⟩=some (flatK enc k d)[t]!
theorem RdK.below (h:RdK enc k B w A d) (hb:Below B w w'):RdK enc k B w' A d:=fun h0=>by
 obtain ⟨b,off,e,hlt,hc⟩:=h h0
 exact ⟨b,off,e,hlt,fun t ht=>(hb.cell (p:=⟨b,off + t,none⟩) hlt).trans (hc t ht)⟩
theorem RdK.mono {B':Nat} (h:RdK enc k B w A d) (hB:B≤B'):RdK enc k B' w A d:=fun h0=>by
 obtain ⟨b,off,e,hlt,hc⟩:=h h0
 exact ⟨b,off,e,by omega,hc⟩
theorem RdK.alloc (h:RdK enc k B w A d) (hB:B≤w.heap.size) (o:Obj):RdK enc k B (w.alloc o) A d:=h.below ((Below.refl _ _).alloc hB o)
theorem qhi (enc:α→List Value) (k:Nat) (d:Array α) (i c:Nat) (hi:i < d.size) (hc:c < k):(flatK enc k d)[i * k + c]! = (enc d[i]!)[c]!:=by
 have lt:i * k + c < d.size * k:=by
  have:=Nat.mul_le_mul_right k (show i + 1≤d.size from hi);rw [Nat.add_mul,Nat.one_mul] at this;omega
 have e1:(i * k + c) / k=i:=(blk_iff k i _ (by omega)).1 ⟨by omega,by omega⟩
 have e2:(i * k + c) % k=c:=by rw [Nat.mod_eq_sub_div_mul,e1];omega
 rw [get_flatK _ _ _ _ lt,e1,e2]
theorem qtq {i c n k:Nat} (hi:i < n) (hc:c < k):i * k + c < n * k:=by
 have:=Nat.mul_le_mul_right k (show i + 1≤n from hi);rw [Nat.add_mul,Nat.one_mul] at this;omega
theorem RdK.at_ (h:RdK enc k B w A d) {i:Nat} (hi:i < d.size):∃ b off,A=some ⟨b,off,none⟩∧b < B∧∀ c,c < k→w.cell? ⟨b,off + i * k + c,none⟩=some (enc d[i]!)[c]!:=by
 obtain ⟨b,off,e,hlt,hc⟩:=h (by omega)
 exact ⟨b,off,e,hlt,fun c hck=>by rw [Nat.add_assoc,hc _ (qtq hi hck),qhi _ _ _ _ _ hi hck]⟩
theorem RdK.of_holds {b off:Nat} (h:HoldsK enc k w b off d) (hb:b < B):RdK enc k B w (some ⟨b,off,none⟩) d:=fun _ =>
 ⟨b,off,rfl,hb,fun t ht=>(h t (by rw [size_flatK];exact ht)).1⟩
theorem qbo {base:Nat} {e:TypeId} {v:Value} (h:w.ownsRow base e k v d.size (flatK enc k d).toList) (hn:v≠.slice none 0 0) :
 ∃ g cap,v=.slice (some ⟨g,0,none⟩) d.size cap∧base≤g∧g < w.heap.size∧HoldsK enc k w g 0 d:=by
 obtain ⟨_,⟨h1,_⟩ | ⟨g,cap,cur,hv,hb,hh,hnc,hmx,hcur,htk⟩⟩:=h
 ·exact absurd h1 hn
 ·have hlt:g < w.heap.size:=by
   rcases Nat.lt_or_ge g w.heap.size with h | h
   ·exact h
   ·rw [Array.getElem?_eq_none h] at hh;cases hh
  refine ⟨g,cap,hv,hb,hlt,fun t ht=>?_⟩
  rw [size_flatK] at ht
  have e1:cur.toList[t]?=(flatK enc k d).toList[t]?:=by rw [←htk,List.getElem?_take_of_lt ht]
  have e2:(flatK enc k d).toList[t]?=some (flatK enc k d)[t]!:=by
   have:t < (flatK enc k d).size:=by rw [size_flatK];exact ht
   rw [Array.getElem?_toList,Array.getElem?_eq_getElem this,getElem!_pos _ t this]
  rw [e2,Array.getElem?_toList] at e1
  exact ⟨by simp [World.cell?,hh,e1],by simp [World.frozen?,hh]⟩
theorem qbb (w:World) (cs:Array Value) (e:TypeId) (t:Nat):(w.alloc (.cells cs e)).cell? ⟨w.heap.size,t,none⟩=cs[t]?:=by
 have:(w.alloc (.cells cs e)).heap[w.heap.size]?=some (.cells cs e (0,0)):=by show (w.heap.push _)[w.heap.size]?=_;simp
 unfold World.cell?
 simp only [this]
 rfl
theorem new_cells (w:World) (enc:α→List Value) (k:Nat) (d:Array α) (e:TypeId) (cs:Array Value) (h:cs=flatK enc k d) (t:Nat) (ht:t < d.size * k):(w.alloc (.cells cs e)).cell? ⟨w.heap.size,0 + t,none⟩=some (flatK enc k d)[t]!:=by
 have hs:t < (flatK enc k d).size:=by rw [size_flatK];exact ht
 rw [qbb,Nat.zero_add,h,Array.getElem?_eq_getElem hs,getElem!_pos _ t hs]
theorem RdK.new (w:World) (enc:α→List Value) (k:Nat) (d:Array α) (e:TypeId) (cs:Array Value) (h:cs=flatK enc k d):RdK enc k (w.heap.size + 1) (w.alloc (.cells cs e)) (some ⟨w.heap.size,0,none⟩) d:=fun _ =>
 ⟨_,_,rfl,Nat.lt_succ_self _,fun t ht=>new_cells w enc k d e cs h t ht⟩
end
end Go.Proofs.YtlkmagmdhopcjaaGreat
namespace Go.Proofs.YtlkmagmdhopcjaaGreat
open Go.RowKit Go.Sort Go.Lib
structure AK where
 kind:Int
 frm:Int
 bal:Int
 t:Int
 abal:Int
 ph:Int
instance:Inhabited AK:=⟨⟨0,0,0,0,0,0⟩⟩
def encK (a:AK):List Value:=[.int .i64 a.kind,.int .i64 a.frm,.int .i64 a.bal,.int .i64 a.t,.int .i64 a.abal,.int .i64 a.ph]
theorem qvt (x:AK):(encK x).length=6:=rfl
theorem encK_1 (x:AK):∀ u ∈ encK x,u.oneCell'=true:=by intro u hu;simp [encK] at hu;rcases hu with rfl | rfl | rfl | rfl | rfl | rfl <;> rfl
structure EN where
 id:Int
 ph:Int
 qu:Int
 t:Int
 bal:Int
 abal:Int
 seen:Int
 age:Int
 pay:ByteArray
 A:Option Addr
 c:Nat
 z:Array AK
instance:Inhabited EN:=⟨⟨0,0,0,0,0,0,0,0,ByteArray.empty,none,0,#[]⟩⟩
def encE (e:EN):List Value:=[.int .i64 e.id,.int .i64 e.ph,.int .i64 e.qu,.int .i64 e.t,.int .i64 e.bal,.int .i64 e.abal,.int .i64 e.seen,.int .i64 e.age,.string e.pay,.slice e.A e.z.size e.c]
theorem qbz (x:EN):(encE x).length=10:=rfl
theorem qrm (x:EN):∀ u ∈ encE x,u.oneCell'=true:=by intro u hu;simp [encE] at hu;rcases hu with rfl | rfl | rfl | rfl | rfl | rfl | rfl | rfl | rfl | rfl <;> rfl
structure RdE0 (w:World) (e:EN):Prop where
 rd:RdK encK 6 w.heap.size w e.A e.z
 cz:e.z.size≤e.c
theorem RdE0.below {w w':World} {e:EN} (h:RdE0 w e) (hb:Below w.heap.size w w'):RdE0 w' e:=⟨(h.rd.below hb).mono hb.size,h.cz⟩
structure RdE (w:World) (e:EN):Prop where
 rd:RdK encK 6 w.heap.size w e.A e.z
 cz:e.z.size≤e.c
 sz:e.z.size≤1000
 pz:e.pay.size≤1000
theorem RdE.below {w w':World} {e:EN} (h:RdE w e) (hb:Below w.heap.size w w'):RdE w' e:=⟨(h.rd.below hb).mono hb.size,h.cz,h.sz,h.pz⟩
theorem RdE0.few {w:World} {e:EN} (h:RdE0 w e) (sz:e.z.size≤100) (pz:e.pay.size≤1000):RdE w e:=⟨h.rd,h.cz,by omega,pz⟩
theorem RdE0.fewW {w:World} {e:EN} (h:RdE0 w e) (sz:e.z.size≤1000) (pz:e.pay.size≤1000):RdE w e:=⟨h.rd,h.cz,sz,pz⟩
def qit (p:Int):Bool:=decide (1≤p∧p≤4)
def qee (p:Int):Bool:=decide (p=5∨p=6)
def propB (p:Int):Bool:=decide (2≤p∧p≤4)
def withB (n top:Int):Bool:=decide (0≤n∧n≤top)
def ackB (a:AK):Bool:=decide (1≤a.kind∧a.kind≤3∧1≤a.frm∧a.frm≤9∧0≤a.t∧a.t≤1000000∧0≤a.bal∧a.bal≤1000000∧0≤a.abal∧a.abal≤1000000∧0≤a.ph∧a.ph≤6)
theorem qel {p:Prop} [Decidable p] {b:Bool} (h:b=true↔p):Ending.returned (.bool b)=.returned (.bool (decide p)):=by
 rw [show b=decide p by cases b <;> simp_all]
set_option maxRecDepth 100000
theorem qhv (p:Int) (w:World):Calls Tryz.prog 61 #[.int .i64 p] w fun e w'=>e=.returned (.bool (qit p))∧w'=w:=by
 go_enter Tryz.func61,Tryz.ntmps61
 go_wp2
 all_goals
  go_ret
  exact ⟨qel (by simp <;> omega),rfl⟩
theorem qem (p:Int) (w:World):Calls Tryz.prog 144 #[.int .i64 p] w fun e w'=>e=.returned (.bool (qee p))∧w'=w:=by
 go_enter Tryz.func144,Tryz.ntmps144
 go_wp2
 all_goals
  go_ret
  exact ⟨qel (by simp <;> omega),rfl⟩
theorem qxz (p:Int) (w:World):Calls Tryz.prog 269 #[.int .i64 p] w fun e w'=>e=.returned (.bool (propB p))∧w'=w:=by
 go_enter Tryz.func269,Tryz.ntmps269
 go_wp2
 all_goals
  go_ret
  exact ⟨qel (by simp <;> omega),rfl⟩
def phE (p:Int):Int:=if 0≤p∧p≤6 then 0 else 2
theorem phE_eq (p:Int):(phE p == 0)=decide (0≤p∧p≤6):=by
 unfold phE
 by_cases h:0≤p∧p≤6
 ·rw [if_pos h];simp [h]
 ·rw [if_neg h];simp;omega
theorem qrn (p:Int) (w:World):Calls Tryz.prog 249 #[.int .i64 p] w fun e w'=>e=.returned (.int .i64 (phE p))∧w'=w:=by
 go_enter Tryz.func249,Tryz.ntmps249
 go_wp2
 all_goals
  go_ret
  refine ⟨qan ?_,rfl⟩
  unfold phE
  first | (rw [if_pos (by omega)]) | (rw [if_neg (by omega)])
theorem qoi (n top:Int) (w:World):Calls Tryz.prog 248 #[.int .i64 n,.int .i64 top] w fun e w'=>e=.returned (.bool (withB n top))∧w'=w:=by
 go_enter Tryz.func248,Tryz.ntmps248
 go_wp2
 all_goals
  go_ret
  exact ⟨qel (by simp <;> omega),rfl⟩
set_option maxHeartbeats 4000000 in
theorem qoj (a:AK) (w:World):Calls Tryz.prog 200 #[.agg (encK a).toArray] w fun e w'=>e=.returned (.bool (ackB a))∧Below w.heap.size w w':=by
 have hb:Below w.heap.size w (w.alloc (.cells (encK a).toArray 176)):=bel1 w _
 have HP:=hI (phE_eq a.ph)
 obtain ⟨kind,frm,bal,t,abal,ph⟩:=a
 simp only [encK] at hb ⊢
 go_enter Tryz.func200,Tryz.ntmps200
 go_wp2_with (first | (go_at_call 248;refine (qoi _ _ _).mono ?_;rintro e w' ⟨rfl,rfl⟩) | (go_at_call 249;refine (qrn _ _).mono ?_;rintro e w' ⟨rfl,rfl⟩))
 all_goals
  go_ret
  refine ⟨qel ?_,hb⟩
  try rw [HP.out]
  simp only [withB,decide_eq_true_eq,decide_eq_false_iff_not,Bool.false_eq_true,false_iff] at *
  omega
end Go.Proofs.YtlkmagmdhopcjaaGreat
namespace Go.Proofs.YtlkmagmdhopcjaaGreat
open Go.RowKit Go.Sort Go.Lib
set_option maxRecDepth 100000
def qmn (p act:Int):Bool:=if act=1 then decide (p=0) else if act=2 then decide (p=0∨p=1) else if act=3∨act=4 then !qee p else decide (p=5)
def rescN (p:Int):Int:=if p=2 then 3 else if p=3∨p=4 then p else 4
def nxE (p act:Int):Int:=if ¬ (0≤p∧p≤6) then 2 else if act < 1∨5 < act then 30 else if qmn p act=true then 0 else 33
def nxP (p act:Int):Int:=if nxE p act=0 then (if act=1 then 1 else if act=2 then 2 else if act=3 then rescN p else if act=4 then 5 else 6) else 0
theorem qtr (p:Int) (w:World):Calls Tryz.prog 317 #[.int .i64 p] w fun e w'=>e=.returned (.bool (decide (p=0∨p=1)))∧w=w':=by
 go_enter Tryz.func317,Tryz.ntmps317
 go_wp2
 all_goals
  go_ret
  exact ⟨qel (by simp <;> omega),rfl⟩
theorem qya (p:Int) (w:World):Calls Tryz.prog 298 #[.int .i64 p] w fun e w'=>e=.returned (.int .i64 (rescN p))∧w=w':=by
 go_enter Tryz.func298,Tryz.ntmps298
 go_wp2
 all_goals
  go_ret
  refine ⟨qan ?_,rfl⟩
  unfold rescN
  simp only [beq_iff_eq,beq_eq_false_iff_ne,ne_eq] at *
  grind
theorem qmo (p act:Int) (w:World):Calls Tryz.prog 297 #[.int .i64 p,.int .i64 act] w fun e w'=>e=.returned (.bool (qmn p act))∧w=w':=by
 have HS:Hid (∀ W,Calls Tryz.prog 144 #[.int .i64 p] W fun e w'=>e=.returned (.bool (qee p))∧W=w'):=fun W=>(qem p W).mono fun e w' h=>⟨h.1,h.2.symm⟩
 have HL:Hid (qmn p act=if act=1 then decide (p=0) else if act=2 then decide (p=0∨p=1) else if act=3∨act=4 then !qee p else decide (p=5)):=rfl
 obtain ⟨L,hL⟩:∃ L,qmn p act=L:=⟨_,rfl⟩
 rw [hL] at HL ⊢
 obtain ⟨S,hS⟩:∃ S,qee p=S:=⟨_,rfl⟩
 rw [hS] at HS HL
 clear hL hS
 go_enter Tryz.func297,Tryz.ntmps297
 go_wp2_with (first
  | (go_at_call 144;refine (HS.out _).mono ?_;rintro _ _ ⟨rfl,rfl⟩)
  | (go_at_call 317;refine (qtr _ _).mono ?_;rintro _ _ ⟨rfl,rfl⟩))
 all_goals
  go_ret
  refine ⟨qac ?_,rfl⟩
  rw [HL.out]
  simp only [beq_iff_eq,beq_eq_false_iff_ne,ne_eq] at *
  grind
set_option maxHeartbeats 4000000 in
theorem qyb (p act:Int) (w:World):Calls Tryz.prog 271 #[.int .i64 p,.int .i64 act] w fun e w'=>e=.returned (.tuple #[.int .i64 (nxP p act),.int .i64 (nxE p act)])∧Below w.heap.size w w':=by
 have HC:Hid (∀ W,Calls Tryz.prog 249 #[.int .i64 p] W fun e w'=>e=.returned (.int .i64 (phE p))∧W=w'):=fun W=>(qrn p W).mono fun e w' h=>⟨h.1,h.2.symm⟩
 have HB:=hI (fun o=>bel1 w o)
 by_cases hp:0≤p∧p≤6
 ·have e0:phE p=0:=by unfold phE;rw [if_pos hp]
  rw [e0] at HC
  by_cases ha:act < 1∨5 < act
  ·have HE:Hid (nxE p act=30):=by show _=_;unfold nxE;rw [if_neg (by omega),if_pos ha]
   have HP:Hid (nxP p act=0):=by show _=_;unfold nxP;rw [HE.out];rfl
   clear hp e0
   go_enter Tryz.func271,Tryz.ntmps271
   go_wp2_with (go_at_call 249;refine (HC.out _).mono ?_;rintro _ _ ⟨rfl,rfl⟩)
   all_goals first
    | (exfalso;omega)
    | (go_ret2;exact ⟨qex HP.out.symm HE.out.symm,Below.refl _ _⟩)
  ·have ha1:1≤act:=by omega
   have ha5:act≤5:=by omega
   by_cases hl:qmn p act=true
   ·have HE:Hid (nxE p act=0):=by show _=_;unfold nxE;rw [if_neg (by omega),if_neg ha,if_pos hl]
    have HLd:Hid (∀ W,Calls Tryz.prog 297 #[.int .i64 p,.int .i64 act] W fun e w'=>e=.returned (.bool true)∧W=w'):=fun W=>by have:=qmo p act W;rwa [hl] at this
    have HP:Hid (nxP p act=(if act=1 then 1 else if act=2 then 2 else if act=3 then rescN p else if act=4 then 5 else 6)):=by show _=_;unfold nxP;rw [HE.out];rfl
    obtain ⟨R,hR⟩:∃ R,rescN p=R:=⟨_,rfl⟩
    have HRs:Hid (∀ W,Calls Tryz.prog 298 #[.int .i64 p] W fun e w'=>e=.returned (.int .i64 R)∧W=w'):=fun W=>by have:=qya p W;rwa [hR] at this
    rw [hR] at HP
    clear hp e0 hl hR ha
    go_enter Tryz.func271,Tryz.ntmps271
    rcases (show act=1∨act=2∨act=3∨act=4∨act=5 by omega) with rfl | rfl | rfl | rfl | rfl
    all_goals
     go_wp2_with (first
      | (go_at_call 249;refine (HC.out _).mono ?_;rintro _ _ ⟨rfl,rfl⟩)
      | (go_at_call 297;refine (HLd.out _).mono ?_;rintro _ _ ⟨rfl,rfl⟩)
      | (go_at_call 298;refine (HRs.out _).mono ?_;rintro _ _ ⟨rfl,rfl⟩))
     go_ret2
     exact ⟨qex HP.out.symm HE.out.symm,HB.out _⟩
   ·have HE:Hid (nxE p act=33):=by show _=_;unfold nxE;rw [if_neg (by omega),if_neg ha,if_neg hl]
    have HP:Hid (nxP p act=0):=by show _=_;unfold nxP;rw [HE.out];rfl
    have HLd:Hid (∀ W,Calls Tryz.prog 297 #[.int .i64 p,.int .i64 act] W fun e w'=>e=.returned (.bool false)∧W=w'):=fun W=>by have:=qmo p act W;rw [Bool.not_eq_true] at hl;rwa [hl] at this
    clear hp e0 hl ha
    go_enter Tryz.func271,Tryz.ntmps271
    go_wp2_with (first
     | (go_at_call 249;refine (HC.out _).mono ?_;rintro _ _ ⟨rfl,rfl⟩)
     | (go_at_call 297;refine (HLd.out _).mono ?_;rintro _ _ ⟨rfl,rfl⟩))
    all_goals first
     | (exfalso;omega)
     | (go_ret2;exact ⟨qex HP.out.symm HE.out.symm,Below.refl _ _⟩)
 ·have e2:phE p=2:=by unfold phE;rw [if_neg hp]
  rw [e2] at HC
  have HE:Hid (nxE p act=2):=by show _=_;unfold nxE;rw [if_pos hp]
  have HP:Hid (nxP p act=0):=by show _=_;unfold nxP;rw [HE.out];rfl
  clear hp e2
  go_enter Tryz.func271,Tryz.ntmps271
  go_wp2_with (go_at_call 249;refine (HC.out _).mono ?_;rintro _ _ ⟨rfl,rfl⟩)
  go_ret2
  exact ⟨qex HP.out.symm HE.out.symm,Below.refl _ _⟩
end Go.Proofs.YtlkmagmdhopcjaaGreat
namespace Go.Proofs.YtlkmagmdhopcjaaGreat
open Go.RowKit Go.Sort Go.Lib
set_option maxRecDepth 100000
def qB (b a:AK):Bool:=decide (b.kind=a.kind∧b.frm=a.frm∧b.bal=a.bal)
def hadN (z:Array AK) (n:Nat) (a:AK):Bool:=(List.range n).any fun j=>qB z[j]! a
theorem hadN_yes {z:Array AK} {n:Nat} {a:AK} (j:Nat) (hj:j < n) (h:qB z[j]! a=true):hadN z n a=true:=by
 unfold hadN;rw [List.any_eq_true];exact ⟨j,List.mem_range.2 hj,h⟩
theorem hadN_no {z:Array AK} {n:Nat} {a:AK} (h:∀ j,j < n→qB z[j]! a=false):hadN z n a=false:=by
 unfold hadN;rw [List.any_eq_false];intro j hj;rw [h j (List.mem_range.1 hj)];exact Bool.false_ne_true
theorem of_any (a:AK) (w:World):Calls Tryz.prog 198 #[.agg (encK a).toArray] w fun e w'=>e=.returned (.agg #[.int .i64 a.kind,.int .i64 a.frm,.int .i64 a.bal])∧Below w.heap.size w w':=by
 have hb:∀ o,Below w.heap.size w ((w.alloc (.cells (encK a).toArray 176)).alloc o):=fun o=>qab (bel1 w _) o
 obtain ⟨kind,frm,bal,t,abal,ph⟩:=a
 simp only [encK] at hb ⊢
 go_enter Tryz.func198,Tryz.ntmps198
 go_wp2
 have hS:Tryz.prog.underlying 224 = some (.struct (Tryz.prog.fieldsOf 224)):=by kernel_rfl
 refine bodyPost_ret (results_cell_row rfl _ _ (w.heap.size + 1) 224 _ (0,0) _ rfl (heap_alloc2_new w _ _) hS rfl (by kernel_rfl)) rfl ?_
 exact ⟨rfl,hb _⟩
theorem eqQ_run (x y:AK) (w:World):(binOp .eql 224 (.agg #[.int .i64 x.kind,.int .i64 x.frm,.int .i64 x.bal]) (.agg #[.int .i64 y.kind,.int .i64 y.frm,.int .i64 y.bal])).run Tryz.prog w=.ok (.bool (qB x y)) w:=by
 have hS:Tryz.prog.underlying 224 = some (.struct (Tryz.prog.fieldsOf 224)):=by kernel_rfl
 have hp:Tryz.prog.stoodInHeld 224 = false:=by kernel_rfl
 have u3:=Tryz.underlying3
 rw [run_eql_struct,show (10000:Nat)=9999 + 1 from rfl,run_equalIn_agg w 9999 224 _ _ hS hp]
 simp only [Program.fieldsOf,Tryz.underlying224]
 go_simp
 unfold qB
 by_cases h1:x.kind=y.kind <;> by_cases h2:x.frm=y.frm <;> by_cases h3:x.bal=y.bal <;> simp [h1,h2,h3]
set_option maxHeartbeats 4000000 in
theorem is_any (q a:AK) (w:World):Calls Tryz.prog 199 #[.agg #[.int .i64 q.kind,.int .i64 q.frm,.int .i64 q.bal],.agg (encK a).toArray] w fun e w'=>e=.returned (.bool (qB a q))∧Below w.heap.size w w':=by
 have HO:=hI (fun W=>of_any a W)
 have heq:=eqQ_run a q
 generalize qB a q=r at heq
 obtain ⟨kind,frm,bal,t,abal,ph⟩:=a
 simp only [encK] at heq HO ⊢
 go_enter Tryz.func199,Tryz.ntmps199
 go_wp2_with fail
 have hc:∀ j,((w.alloc (.cells #[.int .i64 q.kind,.int .i64 q.frm,.int .i64 q.bal] 224)).alloc (.cells #[.int .i64 kind,.int .i64 frm,.int .i64 bal,.int .i64 t,.int .i64 abal,.int .i64 ph] 176)).cell? ⟨w.heap.size + 1,j,none⟩=(#[.int .i64 kind,.int .i64 frm,.int .i64 bal,.int .i64 t,.int .i64 abal,.int .i64 ph]:Array Value)[j]?:=fun j=>by
  simp
 have hd:∀ j,((w.alloc (.cells #[.int .i64 q.kind,.int .i64 q.frm,.int .i64 q.bal] 224)).alloc (.cells #[.int .i64 kind,.int .i64 frm,.int .i64 bal,.int .i64 t,.int .i64 abal,.int .i64 ph] 176)).cell? ⟨w.heap.size,j,none⟩=(#[.int .i64 q.kind,.int .i64 q.frm,.int .i64 q.bal]:Array Value)[j]?:=fun j=>by
  rw [World.cell?_alloc_lt _ _ _ (by simp),qbb]
 have hl:((w.alloc (.cells #[.int .i64 q.kind,.int .i64 q.frm,.int .i64 q.bal] 224)).alloc (.cells #[.int .i64 kind,.int .i64 frm,.int .i64 bal,.int .i64 t,.int .i64 abal,.int .i64 ph] 176)).heap.size=w.heap.size + 2:=by simp
 have HB:=hI (qab (bel1 w (.cells #[.int .i64 q.kind,.int .i64 q.frm,.int .i64 q.bal] 224)) (.cells #[.int .i64 kind,.int .i64 frm,.int .i64 bal,.int .i64 t,.int .i64 abal,.int .i64 ph] 176))
 generalize (w.alloc (.cells #[.int .i64 q.kind,.int .i64 q.frm,.int .i64 q.bal] 224)).alloc (.cells #[.int .i64 kind,.int .i64 frm,.int .i64 bal,.int .i64 t,.int .i64 abal,.int .i64 ph] 176)=w1 at hc hd hl HB ⊢
 have a0:=fun p:ExtW w1=>p.cell (a:=⟨w.heap.size + 1,0,none⟩) (by simp;omega) (hc 0)
 have a1:=fun p:ExtW w1=>p.cell (a:=⟨w.heap.size + 1,1,none⟩) (by simp;omega) (hc 1)
 have a2:=fun p:ExtW w1=>p.cell (a:=⟨w.heap.size + 1,2,none⟩) (by simp;omega) (hc 2)
 have a3:=fun p:ExtW w1=>p.cell (a:=⟨w.heap.size + 1,3,none⟩) (by simp;omega) (hc 3)
 have a4:=fun p:ExtW w1=>p.cell (a:=⟨w.heap.size + 1,4,none⟩) (by simp;omega) (hc 4)
 have a5:=fun p:ExtW w1=>p.cell (a:=⟨w.heap.size + 1,5,none⟩) (by simp;omega) (hc 5)
 have b0:=fun p:ExtW w1=>p.cell (a:=⟨w.heap.size,0,none⟩) (by simp;omega) (hd 0)
 have b1:=fun p:ExtW w1=>p.cell (a:=⟨w.heap.size,1,none⟩) (by simp;omega) (hd 1)
 have b2:=fun p:ExtW w1=>p.cell (a:=⟨w.heap.size,2,none⟩) (by simp;omega) (hd 2)
 clear hc hd hl
 refine qad (by kernel_rfl) (by kernel_rfl) ?_
 repeat (first | go_big_quiet_step ((go_at_call 198;exact Calls.ext_of (HO.out _))) | quiet_step ((go_at_call 198;exact Calls.ext_of (HO.out _))))
 refine wpQuiet_nil ?_
 intro wq hw'
 obtain ⟨⟨W,hbW⟩,hw''⟩:=hw'
 have hw3:wq=W:=hw''
 subst hw3
 have HBW:=hI (qaa HB.out hbW)
 clear hbW hw'' a0 a1 a2 a3 a4 a5 b0 b1 b2
 go_wp2
 go_ret
 exact ⟨rfl,HBW.out⟩
def IdxK (z:Array AK) (n:Nat) (a:AK) (e:Ending):Prop:=∃ r:Int,e=.returned (.int .i64 r)∧((0≤r∧hadN z n a=true)∨(r = -1∧hadN z n a=false))
set_option maxHeartbeats 2000000 in
theorem qyc (A:Option Addr) (c n:Nat) (z:Array AK) (q:AK) (w:World) (h:RdK encK 6 w.heap.size w A z) (hn:n≤z.size) (hs:z.size≤1000000) :
 Calls Tryz.prog 250 #[.slice A n c,.func (.func 199) #[.agg #[.int .i64 q.kind,.int .i64 q.frm,.int .i64 q.bal]] #[]] w fun e w'=>IdxK z n q e∧Below w.heap.size w w':=by
 have HR:=hI h
 clear h
 go_enter Tryz.func250,Tryz.ntmps250
 go_wp2
 go_loopw [8] (fun i wr=>∃ k:Nat,i=.int .i64 k∧k≤n∧Hid (∀ j,j < k→qB z[j]! q=false)∧Hid (Below w.heap.size w wr)) (fun i _=>n - (intOf i).toNat)
 case atStart=>exact ⟨0,rfl,Nat.zero_le _,hI (fun j hj=>absurd hj (by omega)),hI (Below.refl _ _)⟩
 case round =>
  obtain ⟨k,rfl,hk,hall,HB⟩:=hrel
  by_cases hlt:k < n
  ·have kz:(k:Int) < (n:Int):=by omega
   obtain ⟨b,off,rfl,hbl,f⟩:=(HR.out.below HB.out).at_ (i:=k) (by omega)
   have e0:=f 0 (by omega)
   have e1:=f 1 (by omega)
   have e2:=f 2 (by omega)
   have e3:=f 3 (by omega)
   have e4:=f 4 (by omega)
   have e5:=f 5 (by omega)
   have HIs:=hI (fun W=>is_any q z[k]! W)
   have HX:Hid (qB z[k]! q=qB z[k]! q):=rfl
   generalize hx:z[k]! = x at e0 e1 e2 e3 e4 e5 HIs
   have HXX:=hI hx
   clear hx HX f
   obtain ⟨kind,frm,bal,t,abal,ph⟩:=x
   simp only [encK,Nat.add_zero,List.getElem!_cons_zero,List.getElem!_cons_succ] at e0 e1 e2 e3 e4 e5 HIs
   cases hq:qB ⟨kind,frm,bal,t,abal,ph⟩ q
   ·rw [hq] at HIs
    have HQ:=hI hq
    clear hq
    go_wp2_with (go_at_call 199;refine (HIs.out _).mono ?_;rintro e w' ⟨rfl,hb'⟩)
    go_roundw
    case rel =>
     refine ⟨k + 1,by go_num,by omega,hI (fun j hj=>?_),hI (qaa HB.out hb')⟩
     rcases Nat.lt_or_ge j k with h | h
     ·exact hall.out j h
     ·obtain rfl:j=k:=by omega
      rw [HXX.out];exact HQ.out
    case measure=>simp [intOf];omega
   ·rw [hq] at HIs
    have HQ:=hI hq
    clear hq
    go_wp2_with (go_at_call 199;refine (HIs.out _).mono ?_;rintro e w' ⟨rfl,hb'⟩)
    go_ret
    exact ⟨⟨k,rfl,Or.inl ⟨by omega,hadN_yes k (by omega) (by rw [HXX.out];exact HQ.out)⟩⟩,qaa HB.out hb'⟩
  ·have hlt':decide ((k:Int) < (n:Int))=false:=by simp;omega
   go_wp2
   go_ret
   exact ⟨⟨-1,rfl,Or.inr ⟨rfl,hadN_no fun j hj=>hall.out j (by omega)⟩⟩,HB.out⟩
theorem qok (A:Option Addr) (c n:Nat) (z:Array AK) (q:AK) (w:World) (h:RdK encK 6 w.heap.size w A z) (hn:n≤z.size) (hs:z.size≤1000000) :
 Calls Tryz.prog 201 #[.slice A n c,.func (.func 199) #[.agg #[.int .i64 q.kind,.int .i64 q.frm,.int .i64 q.bal]] #[]] w fun e w'=>e=.returned (.bool (hadN z n q))∧Below w.heap.size w w':=by
 have HI:=hI (qyc A c n z q w h hn hs)
 clear h
 go_enter Tryz.func201,Tryz.ntmps201
 go_wp2_with fail
 refine HI.out.mono ?_
 rintro e w' ⟨⟨r,rfl,hr⟩,hb⟩
 have HRR:=hI hr
 have HB:=hI hb
 clear hr hb
 go_wp2
 go_ret
 refine ⟨qac ?_,HB.out⟩
 rcases HRR.out with ⟨h1,h2⟩ | ⟨h1,h2⟩
 ·rw [h2];simp;omega
 ·rw [h2];simp;omega
end Go.Proofs.YtlkmagmdhopcjaaGreat
namespace Go.Proofs.YtlkmagmdhopcjaaGreat
open Go.RowKit Go.Sort Go.Lib
def qro (x:Nat):Nat→Nat
 | 0=>0
 | k + 1=>qro x k + if x.testBit k then 1 else 0
def F1_C (x:Int):Int:=IntKind.u64.wrap (bits .and .u64 (x / 2) 6148914691236517205 + bits .and .u64 x 6148914691236517205)
def F2_C (y:Int):Int:=IntKind.u64.wrap (bits .and .u64 (y / 4) 3689348814741910323 + bits .and .u64 y 3689348814741910323)
def F3_C (y:Int):Int:=bits .and .u64 (y / 16 + y) 1085102592571150095
def F4_C (y:Int):Int:=bits .and .i64 (y + y / 256 + (y + y / 256) / 65536 + (y + y / 256 + (y + y / 256) / 65536) / 4294967296) 127
theorem pc_all_C:∀ x:Fin 512,0≤F1_C (x.1:Int)∧F1_C (x.1:Int)≤5000∧0≤F2_C (F1_C (x.1:Int))∧F2_C (F1_C (x.1:Int))≤5000∧0≤F3_C (F2_C (F1_C (x.1:Int)))∧F3_C (F2_C (F1_C (x.1:Int)))≤5000∧F4_C (F3_C (F2_C (F1_C (x.1:Int))))=(qro x.1 9:Int):=by decide +kernel
set_option maxHeartbeats 1000000 in
theorem qrp (x:Nat) (w:World) (h1:x≤511) :
 Calls Tryz.prog 295 #[.int .u64 x] w fun e w'=>e=.returned (.int .i64 (qro x 9))∧w=w':=by
 obtain ⟨a1,b1,a2,b2,a3,b3,hp⟩:=pc_all_C ⟨x,by omega⟩
 have HP:Hid (F4_C (F3_C (F2_C (F1_C (x:Int))))=(qro x 9:Int)):=hp
 simp only [] at a1 b1 a2 b2 a3 b3
 have e1:IntKind.u64.wrap (bits .and .u64 ((x:Int) / 2) 6148914691236517205 + bits .and .u64 (x:Int) 6148914691236517205)=F1_C (x:Int):=rfl
 generalize F1_C (x:Int)=y1 at *
 have e2:IntKind.u64.wrap (bits .and .u64 (y1 / 4) 3689348814741910323 + bits .and .u64 y1 3689348814741910323)=F2_C y1:=rfl
 generalize F2_C y1=y2 at *
 have e3:bits .and .u64 (y2 / 16 + y2) 1085102592571150095=F3_C y2:=rfl
 generalize F3_C y2=y3 at *
 have x0:(0:Int)≤x:=by omega
 clear hp
 go_enter Tryz.func295,Tryz.ntmps295
 go_wp2
 go_ret
 exact ⟨qan (by rw [←HP.out];rfl),rfl⟩
theorem qyd (x:Nat) (w:World) (h1:x≤511) :
 Calls Tryz.prog 268 #[.int .u64 x] w fun e w'=>e=.returned (.int .i64 (qro x 9))∧w=w':=by
 go_enter Tryz.func268,Tryz.ntmps268
 go_wp2_with (go_at_call 295;refine (qrp _ _ h1).mono ?_;rintro e w' ⟨rfl,rfl⟩)
 go_ret
 exact ⟨rfl,rfl⟩
theorem qrq (s:Int) (w:World) :
 Calls Tryz.prog 267 #[.int .i64 s] w fun e w'=>e=.returned (.bool (decide (0≤s∧s≤511)))∧w=w':=by
 go_enter Tryz.func267,Tryz.ntmps267
 go_wp2
 all_goals
  go_ret
  exact ⟨qac (by simp <;> omega),rfl⟩
theorem qts (x:Nat) (w:World) (h1:x≤511) :
 Calls Tryz.prog 234 #[.int .i64 x] w fun e w'=>e=.returned (.int .i64 (qro x 9))∧w=w':=by
 have hm:=qrq (x:Int)
 rw [show decide (0≤(x:Int)∧(x:Int)≤511)=true by simp;omega] at hm
 have HM:=hI hm;clear hm
 go_enter Tryz.func234,Tryz.ntmps234
 go_wp2_with (first | (go_at_call 267;refine (HM.out _).mono ?_;rintro e w' ⟨rfl,rfl⟩) | (go_at_call 268;refine (qyd _ _ h1).mono ?_;rintro e w' ⟨rfl,rfl⟩))
 go_ret
 exact ⟨rfl,rfl⟩
theorem pc_pos_C:∀ x:Fin 512,0 < x.1→0 < qro x.1 9:=by decide +kernel
def cntN (q:Int):Int:=if 0≤q∧q≤511 then (qro q.toNat 9:Int) else 0
theorem cntN_zero (q:Int):(cntN q == 0)=decide (q < 1∨511 < q):=by
 unfold cntN
 by_cases h:0≤q∧q≤511
 ·rw [if_pos h]
  rcases Nat.eq_zero_or_pos q.toNat with h0 | h0
  ·have hq:q=0:=by omega
   subst hq
   rfl
  ·have:=pc_pos_C ⟨q.toNat,by omega⟩ h0
   simp only [] at this
   rw [decide_eq_false (by omega)]
   exact beq_eq_false_iff_ne.2 (by omega)
 ·rw [if_neg h,decide_eq_true (by omega)];rfl
theorem qye (q:Int) (w:World):Calls Tryz.prog 234 #[.int .i64 q] w fun e w'=>e=.returned (.int .i64 (cntN q))∧w=w':=by
 by_cases h:0≤q∧q≤511
 ·have:=qts q.toNat w (by omega)
  rw [show ((q.toNat:Nat):Int)=q by omega] at this
  unfold cntN
  rw [if_pos h]
  exact this
 ·have HM:=hI (fun W=>qrq q W)
  rw [show decide (0≤q∧q≤511)=false by simp;omega] at HM
  unfold cntN
  rw [if_neg h]
  clear h
  go_enter Tryz.func234,Tryz.ntmps234
  go_wp2_with (go_at_call 267;refine (HM.out _).mono ?_;rintro e w' ⟨rfl,rfl⟩)
  go_ret
  exact ⟨rfl,rfl⟩
end Go.Proofs.YtlkmagmdhopcjaaGreat
namespace Go.Proofs.YtlkmagmdhopcjaaGreat
open Go.RowKit Go.Sort Go.Lib
structure RW (α:Type) where
 A:Option Addr
 c:Nat
 z:Array α
instance {α:Type}:Inhabited (RW α):=⟨⟨none,0,#[]⟩⟩
def RW.v {α:Type} (x:RW α):Value:=.slice x.A x.z.size x.c
def encW {α:Type} (x:RW α):List Value:=[x.v]
theorem qpv {α:Type} (x:RW α):(encW x).length=1:=rfl
structure KE where
 base:Int
 r:RW (Int×Int)
 a:RW (Int×Int)
instance:Inhabited KE:=⟨⟨0,default,default⟩⟩
def qaz (k:KE):List Value:=[.int .i64 k.base,.slice k.r.A k.r.z.size k.r.c,.slice k.a.A k.a.z.size k.a.c]
theorem qmp (x:KE):(qaz x).length=3:=rfl
theorem encKE_1 (x:KE):∀ u ∈ qaz x,u.oneCell'=true:=by intro u hu;simp [qaz] at hu;rcases hu with rfl | rfl | rfl <;> rfl
structure IT where
 id:Int
 free:Int
 held:Int
 gone:Int
instance:Inhabited IT:=⟨⟨0,0,0,0⟩⟩
def encIT (a:IT):List Value:=[.int .i64 a.id,.int .i64 a.free,.int .i64 a.held,.int .i64 a.gone]
theorem encIT_len (x:IT):(encIT x).length=4:=rfl
structure SS where
 cl:Int
 seq:Int
 rep:ByteArray
instance:Inhabited SS:=⟨⟨0,0,ByteArray.empty⟩⟩
def encSS (a:SS):List Value:=[.int .i64 a.cl,.int .i64 a.seq,.string a.rep]
theorem encSS_len (x:SS):(encSS x).length=3:=rfl
structure RP where
 n:Int
 f:Int
 self:Int
 clock:Int
 seq:Int
 floor:Int
 ticks:Int
 e:RW EN
 o:RW (Int×Int)
 k:RW KE
 m:RW (RW Int)
 fr:RW Int
 d:RW (RW (Int×Int))
 lt:Int
 lid:Int
 count:Int
 it:RW IT
 ss:RW SS
instance:Inhabited RP:=⟨⟨0,0,0,0,0,0,0,default,default,default,default,default,default,0,0,0,default,default⟩⟩
def encP (r:RP):List Value:=[.int .i64 r.n,.int .i64 r.f,.int .i64 r.self,.int .i64 r.clock,.int .i64 r.seq,.int .i64 r.floor,.int .i64 r.ticks,
 .slice r.e.A r.e.z.size r.e.c,.slice r.o.A r.o.z.size r.o.c,.slice r.k.A r.k.z.size r.k.c,.slice r.m.A r.m.z.size r.m.c,.slice r.fr.A r.fr.z.size r.fr.c,.slice r.d.A r.d.z.size r.d.c,
 .int .i64 r.lt,.int .i64 r.lid,.int .i64 r.count,.slice r.it.A r.it.z.size r.it.c,.slice r.ss.A r.ss.z.size r.ss.c]
end Go.Proofs.YtlkmagmdhopcjaaGreat
namespace Go.Proofs.YtlkmagmdhopcjaaGreat
open Go.RowKit Go.Sort Go.Lib
def encR (x:Int×Int):List Value:=[.int .i64 x.1,.int .i64 x.2]
def qki (d:Array (Int×Int)) (k:Nat):Bool:=decide (d[k]!.1 < 1∨1000000 < d[k]!.2∨d[k]!.2 < d[k]!.1∨(0 < k∧d[k]!.1 - 1≤d[k - 1]!.2))
def qam (d:Array (Int×Int)):Int:=if 1000 < d.size∨(List.range d.size).any (qki d)=true then 2 else 0
theorem setE_bad {d:Array (Int×Int)} {k:Nat} (hk:k < d.size) (h:qki d k=true):qam d=2:=by
 unfold qam;rw [if_pos];right;rw [List.any_eq_true];exact ⟨k,by simpa using hk,h⟩
theorem setE_big {d:Array (Int×Int)} (h:1000 < d.size):qam d=2:=by unfold qam;rw [if_pos (Or.inl h)]
theorem setE_ok {d:Array (Int×Int)} (h1:d.size≤1000) (h:∀ k,k < d.size→qki d k=false):qam d=0:=by
 unfold qam;rw [if_neg]
 rintro (h' | h')
 ·omega
 ·rw [List.any_eq_true] at h'
  obtain ⟨k,hk,hb⟩:=h'
  rw [h k (by simpa using hk)] at hb;cases hb
theorem qdm {d:Array (Int×Int)} (h:qam d=0):d.size≤1000∧∀ k,k < d.size→qki d k=false:=by
 unfold qam at h
 split at h
 ·cases h
 ·rename_i hh
  refine ⟨by omega,fun k hk=>?_⟩
  cases hb:qki d k
  ·rfl
  ·exact absurd (Or.inr (by rw [List.any_eq_true];exact ⟨k,by simpa using hk,hb⟩)) hh
def qnp (d:Array (Int×Int)) (k:Nat):Int:=if k=0 then -1 else d[k - 1]!.2
set_option maxHeartbeats 2000000 in
theorem qkj (A:Option Addr) (c:Nat) (d:Array (Int×Int)) (w:World) (h:RdK encR 2 w.heap.size w A d) :
 Calls Tryz.prog 128 #[.slice A d.size c] w fun e w'=>e=.returned (.int .i64 (qam d))∧Below w.heap.size w w':=by
 by_cases hd:1000 < d.size
 ·have HE:=hI (setE_big hd)
  have hz:(1000:Int) < (d.size:Int):=by omega
  go_enter Tryz.func128,Tryz.ntmps128
  go_wp2
  go_ret
  exact ⟨qan HE.out.symm,Below.refl _ _⟩
 ·have hd':d.size≤1000:=by omega
  have hz:decide ((1000:Int) < (d.size:Int))=false:=by simp;omega
  clear hd
  have HOK:=hI (setE_ok hd')
  go_enter Tryz.func128,Tryz.ntmps128
  go_wp2
  go_loopw [3,11] (fun l i wr=>∃ k:Nat,k≤d.size∧i=.int .i64 k∧l=.int .i64 (qnp d k)∧-1≤qnp d k∧qnp d k≤1000000∧(∀ j,j < k→qki d j=false)∧Below w.heap.size w wr) (fun _ i _=>d.size - (intOf i).toNat)
  case atStart=>exact ⟨0,Nat.zero_le _,rfl,rfl,by simp [qnp],by simp [qnp],fun j hj=>absurd hj (by omega),Below.refl _ _⟩
  case round =>
   obtain ⟨k,hk,rfl,rfl,l1,l2,hj,hb⟩:=hrel
   have HJ:=hI hj;clear hj
   by_cases hlt:k < d.size
   ·obtain ⟨b,off,rfl,_,f⟩:=(h.below hb).at_ hlt
    have f0:=f 0 (by omega)
    have f1:=f 1 (by omega)
    have HB:Hid (qki d k=decide (d[k]!.1 < 1∨1000000 < d[k]!.2∨d[k]!.2 < d[k]!.1∨d[k]!.1≤qnp d k + 1)):=by
     show _=_
     unfold qki qnp
     rw [decide_eq_decide]
     by_cases h0:k=0
     ·subst h0;simp;omega
     ·rw [if_neg h0];constructor <;> intro hh <;> omega
    have HL:Hid (qnp d (k + 1)=d[k]!.2):=by show _=_;unfold qnp;rw [if_neg (by omega)];rfl
    have HBB:=hI (fun h=>@setE_bad d k hlt h)
    generalize d[k]! = x at f0 f1 HB HL
    simp only [Nat.add_zero,encR,List.getElem!_cons_zero,List.getElem!_cons_succ] at f0 f1
    generalize qnp d k=l at *
    clear f
    have kz:(k:Int) < (d.size:Int):=by omega
    go_wp2
    all_goals first
     | (go_ret;exact ⟨qan (HBB.out (by rw [HB.out];simp;omega)).symm,qab hb _⟩)
     | exact ⟨⟨k + 1,by omega,by go_num,by rw [HL.out],by rw [HL.out];omega,by rw [HL.out];omega,fun j hj=>by
        rcases Nat.lt_or_ge j k with h' | h'
        ·exact HJ.out j h'
        ·obtain rfl:j=k:=by omega
         rw [HB.out];simp;omega,qab hb _⟩,by simp [intOf];omega⟩
   ·go_wp2
    go_ret
    exact ⟨qan (HOK.out fun j hj=>HJ.out j (by omega)).symm,hb⟩
end Go.Proofs.YtlkmagmdhopcjaaGreat
namespace Go.Proofs.YtlkmagmdhopcjaaGreat
open Go.RowKit Go.Sort Go.Lib
def qde (n:Int) (x:Int×Int):Bool:=decide (x.1≤n∧n≤x.2)
def inR (d:Array (Int×Int)) (n:Int):Bool:=d.toList.any (qde n)
theorem qtt {d:Array (Int×Int)} {n:Int} {j:Nat} (hj:j < d.size) (h:qde n d[j]! = true):inR d n=true:=by
 unfold inR;rw [List.any_eq_true];exact ⟨d[j]!,by rw [getElem!_pos d j hj];simp,h⟩
theorem ok_at {d:Array (Int×Int)} (h:qam d=0) {k:Nat} (hk:k < d.size):1≤d[k]!.1∧d[k]!.1≤d[k]!.2∧d[k]!.2≤1000000∧(0 < k→d[k - 1]!.2 + 1 < d[k]!.1):=by
 have:=(qdm h).2 k hk
 unfold qki at this
 rw [decide_eq_false_iff_not] at this
 refine ⟨by omega,by omega,by omega,fun h0=>by omega⟩
theorem qfv (A:Option Addr) (c:Nat) (d:Array (Int×Int)) (w:World) (h:RdK encR 2 w.heap.size w A d) :
 Calls Tryz.prog 150 #[.slice A d.size c] w fun e w'=>e=.returned (.bool (qam d == 0))∧Below w.heap.size w w':=by
 go_enter Tryz.func150,Tryz.ntmps150
 go_wp2_with (go_at_call 128;refine (qkj _ _ d _ h).mono ?_;rintro e w' ⟨rfl,hb⟩)
 go_ret
 exact ⟨rfl,hb⟩
theorem has1_any (n:Int) (x:Int×Int) (a:Addr) (w:World) (ha:a.block < w.heap.size) (hc:w.cell? a=some (.int .i64 n)) :
 Calls Tryz.prog 152 #[.agg #[.int .i64 x.1,.int .i64 x.2],.pointer (some a)] w fun e w'=>e=.returned (.bool (qde n x))∧Below w.heap.size w w':=by
 have hc':∀ o,(w.alloc o).cell? a=some (.int .i64 n):=fun o=>(World.cell?_alloc_lt w o a ha).trans hc
 go_enter Tryz.func152,Tryz.ntmps152
 go_wp2
 all_goals
  go_ret
  refine ⟨qac ?_,bel1 _ _⟩
  unfold qde
  first | (rw [Bool.eq_iff_iff,decide_eq_true_iff,decide_eq_true_iff];omega) | (symm;rw [decide_eq_true_iff];omega) | (symm;rw [decide_eq_false_iff_not];omega)
set_option maxHeartbeats 1000000 in
theorem qtu (A:Option Addr) (c:Nat) (fv:Value) (w:World) :
 Calls Tryz.prog 151 #[.slice A 0 c,fv] w fun e w'=>e=.returned (.bool false)∧w=w':=by
 go_enter Tryz.func151,Tryz.ntmps151
 go_wp2
 refine wp_loop_rounds 1 ?_;rw [rounds_succ]
 go_wp2
 go_ret
 exact ⟨rfl,rfl⟩
theorem ContR (p:Int×Int→Bool) (g:Nat) (lb:Array Value) (A:Option Addr) (c:Nat) (d:Array (Int×Int)) (w:World) (h:RdK encR 2 w.heap.size w A d) (hd:d.size≤100000000) (eg:∀ args w,(callFunc g args).run Tryz.prog w=.ok (.enter g args) w) (hp:PredBelow Tryz.prog g lb (fun x:Int×Int=>.agg (encR x).toArray) p w) :
 Calls Tryz.prog 151 #[.slice A d.size c,.func (.func g) #[] lb] w fun e w'=>e=.returned (.bool (d.toList.any p))∧Below w.heap.size w w':=by
 rcases Nat.eq_zero_or_pos d.size with h0 | h0
 ·have e0:d=#[]:=Array.eq_empty_of_size_eq_zero h0
  subst e0
  exact (qtu A c _ w).mono fun e w' ⟨he,hw⟩=>⟨by rw [he];rfl,by rw [←hw];exact Below.refl _ _⟩
 ·obtain ⟨b,off,rfl,hb,hc⟩:=h h0
  have:=AnyQ.slices_ContainsFunc Tryz.laysContR 2 Tryz.isAgg124 Tryz.sizeOf124 encR (fun _=>rfl) p g lb eg b off d.size c d.toList w hp (by simp) (by omega) hb (fun j hj i v hv=>by
   have hj':j < d.size:=by simpa using hj
   have hi:i < 2:=by
    rcases Nat.lt_or_ge i 2 with h' | h'
    ·exact h'
    ·rw [List.getElem?_eq_none (by show 2≤i;exact h')] at hv;cases hv
   have e1:d.toList[j]! = d[j]!:=by simp [hj']
   rw [e1] at hv
   rw [Nat.add_assoc,hc _ (qtq hj' hi),qhi _ _ _ _ _ hj' hi]
   rw [List.getElem!_eq_getElem?_getD,hv];rfl)
  rwa [show d.toList.take d.size=d.toList from List.take_of_length_le (by simp)] at this
def qbx (d:Array (Int×Int)) (n:Int):Bool:=(qam d == 0) && inR d n
set_option maxHeartbeats 1000000 in
theorem qjp (A:Option Addr) (c:Nat) (d:Array (Int×Int)) (n:Int) (w:World) (h:RdK encR 2 w.heap.size w A d) :
 Calls Tryz.prog 71 #[.slice A d.size c,.int .i64 n] w fun e w'=>e=.returned (.bool (qbx d n))∧Below w.heap.size w w':=by
 have r0:=hI ((h.alloc (Nat.le_refl _) (.cells #[.int .i64 n] 3)).mono (show w.heap.size≤(w.alloc (.cells #[.int .i64 n] 3)).heap.size by simp))
 by_cases hs:qam d=0
 ·have hq:(qam d == 0)=true:=by simp [hs]
  have hd:=(qdm hs).1
  have HH:Hid (qbx d n=inR d n):=by show _=_;unfold qbx;rw [hq];rfl
  clear hs
  go_enter Tryz.func71,Tryz.ntmps71
  go_wp2_with fail
  refine (qfv _ _ d _ r0.out).mono ?_
  rintro e w1 ⟨rfl,hb1⟩
  have hz1:w.heap.size < w1.heap.size:=by have:=hb1.size;simp at this;omega
  have hc1:w1.cell? ⟨w.heap.size,0,none⟩=some (.int .i64 n):=(hb1.cell (p:=⟨w.heap.size,0,none⟩) (by simp)).trans (qbb w _ _ 0)
  have hC:Calls Tryz.prog 151 #[.slice A d.size c,.func (.func 152) #[] #[.pointer (some ⟨w.heap.size,0,none⟩)]] w1 fun e w'=>e=.returned (.bool (inR d n))∧Below w1.heap.size w1 w':=ContR (qde n) 152 #[.pointer (some ⟨w.heap.size,0,none⟩)] A c d w1 ((r0.out.below hb1).mono hb1.size) (by omega) (enters_of Tryz.func152 (by kernel_rfl) rfl)
   (fun W x hbW=>(has1_any n x ⟨w.heap.size,0,none⟩ W (Nat.lt_of_lt_of_le hz1 hbW.size) ((hbW.cell (p:=⟨w.heap.size,0,none⟩) hz1).trans hc1)).mono fun _ _ ⟨he,hb'⟩=>⟨he,hbW.trans (hb'.mono hbW.size)⟩)
  have HC:=hI hC
  clear hC hc1
  generalize inR d n=v at HC HH
  go_wp2_with fail
  refine HC.out.mono ?_
  rintro e w2 ⟨rfl,hb2⟩
  go_wp2
  go_ret
  exact ⟨qac HH.out.symm,qaa (qaa (bel1 _ _) hb1) hb2⟩
 ·have hq:(qam d == 0)=false:=by simpa using hs
  have HH:Hid (qbx d n=false):=by show _=_;unfold qbx;rw [hq];rfl
  clear hs
  go_enter Tryz.func71,Tryz.ntmps71
  go_wp2_with fail
  refine (qfv _ _ d _ r0.out).mono ?_
  rintro e w1 ⟨rfl,hb1⟩
  go_wp2
  go_ret
  exact ⟨qac HH.out.symm,qaa (bel1 _ _) hb1⟩
end Go.Proofs.YtlkmagmdhopcjaaGreat
namespace Go.Proofs.YtlkmagmdhopcjaaGreat
open Go.RowKit Go.Sort Go.Lib
def preB (b:Int) (x:Int×Int):Bool:=decide (x.1 - 1≤b∧b < x.2)
def preE (d:Array (Int×Int)) (b:Int):Int:=if qam d=0 then ((d.toList.find? (preB b)).map (·.2)).getD b else b
theorem preE_at {d:Array (Int×Int)} {b:Int} {k:Nat} (hs:qam d=0) (hk:k < d.size) (hj:∀ j,j < k→preB b d[j]! = false) (h:preB b d[k]! = true):preE d b=d[k]!.2:=by
 unfold preE
 rw [if_pos hs]
 have:d.toList.find? (preB b)=some d[k]!:=by
  rw [List.find?_eq_some_iff_getElem]
  refine ⟨h,k,by simpa using hk,by rw [getElem!_pos d k hk];simp,fun j hj'=>?_⟩
  have:=hj j hj'
  rw [getElem!_pos d j (by omega)] at this
  simpa using this
 rw [this];rfl
theorem preE_no {d:Array (Int×Int)} {b:Int} (hj:∀ j,j < d.size→preB b d[j]! = false):preE d b=b:=by
 unfold preE
 split
 ·have:d.toList.find? (preB b)=none:=by
   rw [List.find?_eq_none]
   intro x hx
   obtain ⟨j,hj',rfl⟩:=List.mem_iff_getElem.1 hx
   have:=hj j (by simpa using hj')
   rw [getElem!_pos d j (by simpa using hj')] at this
   simpa using this
  rw [this];rfl
 ·rfl
theorem preE_bad {d:Array (Int×Int)} {b:Int} (hs:qam d≠0):preE d b=b:=by unfold preE;rw [if_neg hs]
set_option maxHeartbeats 2000000 in
theorem qtv (A:Option Addr) (c:Nat) (d:Array (Int×Int)) (n:Int) (w:World) (h:RdK encR 2 w.heap.size w A d) :
 Calls Tryz.prog 158 #[.slice A d.size c,.int .i64 n] w fun e w'=>e=.returned (.int .i64 (preE d n))∧Below w.heap.size w w':=by
 by_cases hs:qam d=0
 ·have hq:(qam d == 0)=true:=by simp [hs]
  have HY:=hI (fun k hk=>@preE_at d n k hs hk)
  have HN:=hI (@preE_no d n)
  have HO:=hI (fun k hk=>@ok_at d hs k hk)
  have hd':=(qdm hs).1
  clear hs
  go_enter Tryz.func158,Tryz.ntmps158
  go_wp2_with fail
  refine (qfv _ _ d _ h).mono ?_
  rintro e w1 ⟨rfl,hb1⟩
  go_wp2
  go_loopw [13] (fun i wr=>∃ k:Nat,k≤d.size∧i=.int .i64 k∧(∀ j,j < k→preB n d[j]! = false)∧Below w.heap.size w wr) (fun i _=>d.size - (intOf i).toNat)
  case atStart=>exact ⟨0,Nat.zero_le _,rfl,fun j hj=>absurd hj (by omega),hb1⟩
  case round =>
   obtain ⟨k,hk,rfl,hj,hb⟩:=hrel
   have HJ:=hI hj;clear hj
   by_cases hlt:k < d.size
   ·obtain ⟨b,off,rfl,_,f⟩:=(h.below hb).at_ hlt
    have f0:=f 0 (by omega)
    have f1:=f 1 (by omega)
    have ho:=HO.out k hlt
    have HB:Hid (preB n d[k]! = decide (d[k]!.1 - 1≤n∧n < d[k]!.2)):=rfl
    have HYk:=hI (HY.out k hlt HJ.out)
    have HNk:Hid (preB n d[k]! = false→∀ j,j < k + 1→preB n d[j]! = false):=fun hf j hj=>by
     rcases Nat.lt_or_ge j k with h' | h'
     ·exact HJ.out j h'
     ·obtain rfl:j=k:=by omega
      exact hf
    generalize d[k]! = x at f0 f1 HB HYk HNk ho
    simp only [Nat.add_zero,encR,List.getElem!_cons_zero,List.getElem!_cons_succ] at f0 f1
    clear f
    have kz:(k:Int) < (d.size:Int):=by omega
    go_wp2
    all_goals first
     | (go_ret;exact ⟨qan (HYk.out (by rw [HB.out];simp;omega)).symm,qab hb _⟩)
     | exact ⟨⟨k + 1,by omega,by go_num,HNk.out (by rw [HB.out];simp;omega),qab hb _⟩,by simp [intOf];omega⟩
   ·go_wp2
    go_ret
    exact ⟨qan (HN.out fun j hj=>HJ.out j (by omega)).symm,hb⟩
 ·have hq:(qam d == 0)=false:=by simpa using hs
  have HH:=hI (preE_bad (b:=n) hs)
  clear hs
  go_enter Tryz.func158,Tryz.ntmps158
  go_wp2_with fail
  refine (qfv _ _ d _ h).mono ?_
  rintro e w1 ⟨rfl,hb1⟩
  go_wp2
  go_ret
  exact ⟨qan HH.out.symm,hb1⟩
end Go.Proofs.YtlkmagmdhopcjaaGreat
namespace Go.Proofs.YtlkmagmdhopcjaaGreat
open Go.RowKit Go.Sort
def qcv (x:Int):Value:=.int .i64 x
def RdI_R (B:Nat) (w:World) (A:Option Addr) (d:Array Int):Prop :=
 0 < d.size→∃ b off,A=some ⟨b,off,none⟩∧b < B∧∀ i,i < d.size→w.cell? ⟨b,off + i,none⟩=some (.int .i64 d[i]!)
section
variable {w w':World} {A:Option Addr} {d:Array Int} {B:Nat}
theorem RdI_R.below (h:RdI_R B w A d) (hb:Below B w w'):RdI_R B w' A d:=fun h0=>by
 obtain ⟨b,off,e,hlt,hc⟩:=h h0
 exact ⟨b,off,e,hlt,fun t ht=>(hb.cell (p:=⟨b,off + t,none⟩) hlt).trans (hc t ht)⟩
theorem RdI_R.mono {B':Nat} (h:RdI_R B w A d) (hB:B≤B'):RdI_R B' w A d:=fun h0=>by
 obtain ⟨b,off,e,hlt,hc⟩:=h h0
 exact ⟨b,off,e,by omega,hc⟩
theorem RdI_R.alloc (h:RdI_R B w A d) (hB:B≤w.heap.size) (o:Obj):RdI_R B (w.alloc o) A d:=h.below ((Below.refl _ _).alloc hB o)
theorem RdI_R.at_ (h:RdI_R B w A d) {i:Nat} (hi:i < d.size):∃ b off,A=some ⟨b,off,none⟩∧b < B∧w.cell? ⟨b,off + i,none⟩=some (.int .i64 d[i]!):=by
 obtain ⟨b,off,e,hlt,hc⟩:=h (by omega)
 exact ⟨b,off,e,hlt,hc i hi⟩
theorem RdI_R.none_:RdI_R B w A #[]:=fun h=>absurd h (by decide)
theorem RdI_R.new (w:World) (d:Array Int) (e:TypeId) (cs:Array Value) (h:cs=d.map qcv):RdI_R (w.heap.size + 1) (w.alloc (.cells cs e)) (some ⟨w.heap.size,0,none⟩) d:=fun _ =>
 ⟨_,_,rfl,Nat.lt_succ_self _,fun i hi=>by
  rw [qbb,Nat.zero_add,h,Array.getElem?_map,Array.getElem?_eq_getElem hi,getElem!_pos _ i hi];rfl⟩
end
def qic (n:Int):Int:=if n < 3∨9 < n then 0 else n / 2 + 1
def qyf (n:Int):Bool:=decide (3≤n∧n≤9)
theorem qhw (n:Int) (w:World) :
 Calls Tryz.prog 189 #[.int .i64 n] w fun e w'=>e=.returned (.bool (qyf n))∧w=w':=by
 go_enter Tryz.func189,Tryz.ntmps189
 go_wp2
 all_goals
  go_ret
  exact ⟨qac (by unfold qyf;simp <;> omega),rfl⟩
theorem qrr {n:Int} (h:3≤n) (h':n≤9):qyf n=true:=by unfold qyf;simp;omega
theorem qvu {n:Int} (h:n < 3∨9 < n):qyf n=false:=by unfold qyf;simp;omega
theorem qgr (n:Int) (w:World) :
 Calls Tryz.prog 160 #[.int .i64 n] w fun e w'=>e=.returned (.int .i64 (qic n))∧w=w':=by
 by_cases h:n < 3∨9 < n
 ·have hm:=qvu h
  have HM:Hid (qic n=0):=by show _=_;unfold qic;rw [if_pos h]
  clear h
  go_enter Tryz.func160,Tryz.ntmps160
  go_wp2_with (go_at_call 189;refine (qhw _ _).mono ?_;rintro e w' ⟨rfl,rfl⟩)
  go_ret
  exact ⟨qan HM.out.symm,rfl⟩
 ·have h1:3≤n:=by omega
  have h2:n≤9:=by omega
  have hm:=qrr h1 h2
  have HM:Hid (qic n=n / 2 + 1):=by show _=_;unfold qic;rw [if_neg h]
  clear h
  go_enter Tryz.func160,Tryz.ntmps160
  go_wp2_with (go_at_call 189;refine (qhw _ _).mono ?_;rintro e w' ⟨rfl,rfl⟩)
  go_ret
  exact ⟨qan HM.out.symm,rfl⟩
end Go.Proofs.YtlkmagmdhopcjaaGreat
namespace Go.Proofs.YtlkmagmdhopcjaaGreat
open Go.RowKit Go.Sort Go.Lib
theorem qgs (d:Array Int) (j:Nat):d.toList.getD j 0=d[j]!:=by
 by_cases h:j < d.size <;> simp [List.getD,h]
theorem qyg (d:Array Int) (j:Nat):d.toList[j]! = d[j]!:=by
 by_cases h:j < d.size <;> simp [h]
theorem ContI (p:Int→Bool) (g:Nat) (lb:Array Value) (A:Option Addr) (c:Nat) (d:Array Int) (B:Nat) (w:World) (h:RdI_R B w A d) (hd:d.size≤100000000) (eg:∀ args w,(callFunc g args).run Tryz.prog w=.ok (.enter g args) w) (hp:PredAt Tryz.prog g lb qcv p w) :
 Calls Tryz.prog 162 #[.slice A d.size c,.func (.func g) #[] lb] w fun e w'=>e=.returned (.bool (d.toList.any p))∧∃ q,w'=w.drewN q:=by
 rcases Nat.eq_zero_or_pos d.size with h0 | h0
 ·have e0:d=#[]:=Array.eq_empty_of_size_eq_zero h0
  subst e0
  exact (Tryz.slices_ContainsFunc_empty (α:=Int) A c _ w).mono fun e w' ⟨he,hw⟩=>⟨by rw [he];rfl,0,hw⟩
 ·obtain ⟨b,off,rfl,_,hc⟩:=h h0
  have:=Tryz.slices_ContainsFunc qcv p g lb eg b off d.size c d.toList w hp (by simp) (by omega) (fun j hj=>by rw [hc j (by simpa using hj),qyg];rfl)
  rwa [show d.toList.take d.size=d.toList from List.take_of_length_le (by simp)] at this
theorem qii {w:World} {base:Nat} {e:TypeId} {v:Value} {d:Array Int} (h:w.ownsRow base e 1 v d.size (d.toList.map (Value.int .i64))) (hn:v≠.slice none 0 0) :
 ∃ g cap,v=.slice (some ⟨g,0,none⟩) d.size cap∧base≤g∧g < w.heap.size∧Holds qcv w g 0 d:=by
 obtain ⟨_,⟨h1,_⟩ | ⟨g,cap,cur,hv,hb,hh,hnc,hmx,hcur,htk⟩⟩:=h
 ·exact absurd h1 hn
 ·have hlt:g < w.heap.size:=by
   rcases Nat.lt_or_ge g w.heap.size with h | h
   ·exact h
   ·rw [Array.getElem?_eq_none h] at hh;cases hh
  refine ⟨g,cap,hv,hb,hlt,fun t ht=>?_⟩
  have e1:cur.toList[t]?=(d.toList.map (Value.int .i64))[t]?:=by rw [←htk,List.getElem?_take_of_lt (by omega)]
  rw [List.getElem?_map,Array.getElem?_toList,Array.getElem?_toList,Array.getElem?_eq_getElem ht] at e1
  refine ⟨?_,by simp [World.frozen?,hh]⟩
  rw [getElem!_pos d t ht]
  simp [World.cell?,hh,e1,qcv]
theorem CloneI (A:Option Addr) (c:Nat) (d:Array Int) (B:Nat) (w:World) (h:RdI_R B w A d) (hd:d.size≤1000000000) :
 Calls Tryz.prog 82 #[.slice A d.size c] w fun e w'=>∃ A' c',e=.returned (.slice A' d.size c')∧(0 < d.size→∃ g,A'=some ⟨g,0,none⟩∧w.heap.size≤g∧g < w'.heap.size∧Holds qcv w' g 0 d)∧Below w.heap.size w w':=by
 rcases Nat.eq_zero_or_pos d.size with h0 | h0
 ·have e0:d=#[]:=Array.eq_empty_of_size_eq_zero h0
  subst e0
  cases A with
  | none=>exact (Tryz.slices_Clone_int_nil 0 c w).mono fun e w' ⟨he,hw⟩=>⟨none,0,he,fun h=>absurd h (by decide),by rw [hw];exact Below.refl _ _⟩
  | some a =>
    refine (Tryz.slices_Clone_int_zero a c w).mono ?_
    rintro e w' ⟨v,he,hown,hn,hb⟩
    obtain ⟨_,⟨h1,_⟩ | ⟨g,cap,cur,hv,_⟩⟩:=hown
    ·exact absurd h1 hn
    ·exact ⟨_,cap,by rw [he,hv];rfl,fun h=>absurd h (by decide),hb⟩
 ·obtain ⟨b,off,rfl,_,hc⟩:=h h0
  refine (Tryz.slices_Clone_int b off d.size c d.toList w (by simp) (by omega) (fun j hj=>by rw [hc j (by simpa using hj),qgs])).mono ?_
  rintro e w' ⟨v,rfl,hown,hn,hb⟩
  rw [show d.toList.take d.size=d.toList from List.take_of_length_le (by simp)] at hown
  obtain ⟨g,cap,rfl,h1,h2,h3⟩:=qii hown hn
  exact ⟨_,cap,rfl,fun _=>⟨g,rfl,h1,h2,h3⟩,hb⟩
def qiu (t:Int):Bool:=decide (t < 0∨1000000 < t)
theorem none1_any (t:Int) (w:World) :
 Calls Tryz.prog 161 #[.int .i64 t] w fun e w'=>e=.returned (.bool (qiu t))∧w=w':=by
 go_enter Tryz.func161,Tryz.ntmps161
 go_wp2
 all_goals
  go_ret
  refine ⟨qac ?_,rfl⟩
  unfold qiu
  first | (rw [Bool.eq_iff_iff,decide_eq_true_iff,decide_eq_true_iff];omega) | (symm;rw [decide_eq_true_iff];omega) | (symm;rw [decide_eq_false_iff_not];omega)
theorem qyh (w:World):PredAt Tryz.prog 161 #[] qcv qiu w:=fun W x _ =>
 (none1_any x W).mono fun _ _ ⟨he,hw⟩=>⟨he,0,hw.symm⟩
def qas (d:Array Int) (n:Int):Int:=if qic n=0∨(d.size:Int)≠n∨d.toList.any qiu=true then 2 else 0
set_option maxHeartbeats 1000000 in
theorem qfi (A:Option Addr) (c:Nat) (d:Array Int) (n:Int) (B:Nat) (w:World) (h:RdI_R B w A d) (hd:d.size≤100000000) :
 Calls Tryz.prog 79 #[.slice A d.size c,.int .i64 n] w fun e w'=>e=.returned (.int .i64 (qas d n))∧Below w.heap.size w w':=by
 have HC:=fun W hW=>hI (ContI qiu 161 #[] A c d B W hW hd (enters_of Tryz.func161 (by kernel_rfl) rfl) (qyh W))
 have HCC:=hI (HC w h)
 clear HC
 by_cases h1:qic n=0
 ·have HM:Hid (qas d n=2):=by show _=_;unfold qas;rw [if_pos (Or.inl h1)]
  clear HCC
  go_enter Tryz.func79,Tryz.ntmps79
  go_wp2_with (go_at_call 160;refine (qgr _ _).mono ?_;rintro e w' ⟨rfl,rfl⟩)
  go_ret
  exact ⟨qan HM.out.symm,Below.refl _ _⟩
 by_cases h2:(d.size:Int)≠n
 ·have HM:Hid (qas d n=2):=by show _=_;unfold qas;rw [if_pos (Or.inr (Or.inl h2))]
  have b1:(qic n == 0)=false:=by simpa using h1
  have b2:((d.size:Int) != n)=true:=by simpa using h2
  clear h1 h2 HCC
  go_enter Tryz.func79,Tryz.ntmps79
  go_wp2_with (go_at_call 160;refine (qgr _ _).mono ?_;rintro e w' ⟨rfl,rfl⟩)
  go_ret
  exact ⟨qan HM.out.symm,Below.refl _ _⟩
 have b1:(qic n == 0)=false:=by simpa using h1
 have b2:((d.size:Int) != n)=false:=by simpa using h2
 cases h3:d.toList.any qiu
 ·have HM:Hid (qas d n=0):=by show _=_;unfold qas;rw [if_neg (by simp [h1,h3];simpa using h2)]
  rw [h3] at HCC
  clear h1 h2 h3
  go_enter Tryz.func79,Tryz.ntmps79
  go_wp2_with (first | (go_at_call 160;refine (qgr _ _).mono ?_;rintro e w' ⟨rfl,rfl⟩) | (go_at_call 162;refine HCC.out.out.mono ?_;rintro e w' ⟨rfl,q,rfl⟩))
  go_ret
  exact ⟨qan HM.out.symm,qbc (Below.refl _ _) _⟩
 ·have HM:Hid (qas d n=2):=by show _=_;unfold qas;rw [if_pos (Or.inr (Or.inr h3))]
  rw [h3] at HCC
  clear h1 h2 h3
  go_enter Tryz.func79,Tryz.ntmps79
  go_wp2_with (first | (go_at_call 160;refine (qgr _ _).mono ?_;rintro e w' ⟨rfl,rfl⟩) | (go_at_call 162;refine HCC.out.out.mono ?_;rintro e w' ⟨rfl,q,rfl⟩))
  go_ret
  exact ⟨qan HM.out.symm,qbc (Below.refl _ _) _⟩
end Go.Proofs.YtlkmagmdhopcjaaGreat
namespace Go.Proofs.YtlkmagmdhopcjaaGreat
open Go.RowKit Go.Sort Go.Lib
theorem arr_ext_R {α:Type} [Inhabited α] {d1 d2:Array α} (hs:d1.size=d2.size) (h:∀ j,j < d1.size→d1[j]! = d2[j]!):d1=d2 :=
 Array.ext hs fun t h1 h2=>by have:=h t h1;rwa [getElem!_pos d1 t h1,getElem!_pos d2 t h2] at this
set_option maxHeartbeats 1000000 in
theorem qnq (A1 A2:Option Addr) (c1 c2:Nat) (d1 d2:Array Int) (B1 B2:Nat) (w:World) (h1:RdI_R B1 w A1 d1) (h2:RdI_R B2 w A2 d2) (hm:d2.size≤100000000) :
 Calls Tryz.prog 24 #[.slice A1 d1.size c1,.slice A2 d2.size c2] w fun e w'=>e=.returned (.bool (decide (d1=d2)))∧∃ n,w'=w.drewN n:=by
 by_cases hs:d1.size=d2.size
 ·have hb:((d1.size:Int) != (d2.size:Int))=false:=by simp [hs]
  have HS:=hI hs
  have hge:d1.size≤d2.size:=by omega
  clear hs
  go_enter Tryz.func24,Tryz.ntmps24
  go_wp2
  go_loopw [5] (fun i wr=>∃ k n:Nat,k≤d1.size∧i=.int .i64 k∧wr=w.drewN n∧∀ j,j < k→d1[j]! = d2[j]!) (fun i _=>d1.size - (intOf i).toNat)
  case atStart=>exact ⟨0,0,Nat.zero_le _,rfl,rfl,fun j hj=>absurd hj (by omega)⟩
  case round =>
   obtain ⟨k,n,hk,rfl,rfl,hj⟩:=hrel
   have HJ:=hI hj;clear hj
   by_cases hlt:k < d1.size
   ·obtain ⟨b1,o1,rfl,_,f1⟩:=h1.at_ hlt
    obtain ⟨b2,o2,rfl,_,f2⟩:=h2.at_ (i:=k) (by omega)
    have HX:Hid (k < d1.size):=hlt
    generalize hx:d1[k]! = x at f1
    generalize hy:d2[k]! = y at f2
    have HXX:=hI hx;clear hx
    have HYY:=hI hy;clear hy
    have kz:(k:Int) < (d1.size:Int):=by omega
    have kz2:(k:Int) < (d2.size:Int):=by omega
    by_cases hxy:x=y
    ·subst hxy
     go_wp2
     go_quiet (fail)
     go_wp2
     go_roundw
     case rel=>exact ⟨k + 1,_,by omega,by go_num,rfl,fun j hj=>by
      rcases Nat.lt_or_ge j k with h | h
      ·exact HJ.out j h
      ·obtain rfl:j=k:=by omega
       rw [HXX.out,HYY.out]⟩
     case measure=>simp [intOf];omega
    ·have hd:(x != y)=true:=by simp [hxy]
     have HXY:=hI hxy;clear hxy
     go_wp2
     go_quiet (fail)
     go_wp2
     go_ret
     exact ⟨qac (by symm;rw [decide_eq_false_iff_not];rintro rfl;exact HXY.out (by rw [←HXX.out,←HYY.out])),_,World.drewN_drewN _ _ _⟩
   ·go_wp2
    go_ret
    exact ⟨qac (by symm;rw [decide_eq_true_iff];exact arr_ext_R HS.out fun j hj=>HJ.out j (by omega)),n,rfl⟩
 ·have hb:((d1.size:Int) != (d2.size:Int))=true:=by simp;omega
  have HS:=hI hs;clear hs
  go_enter Tryz.func24,Tryz.ntmps24
  go_wp2
  go_ret
  exact ⟨qac (by symm;rw [decide_eq_false_iff_not];rintro rfl;exact HS.out rfl),0,rfl⟩
def qeg (d:Array Int):Int:=Lib.minOf d.toList
theorem qrs (A:Option Addr) (c:Nat) (d:Array Int) (B:Nat) (w:World) (h:RdI_R B w A d) (hd:d.size≤100000000) :
 Calls Tryz.prog 84 #[.slice A d.size c] w fun e w'=>e=.returned (.int .i64 (qeg d))∧w=w':=by
 rcases Nat.eq_zero_or_pos d.size with h0 | h0
 ·have e0:d=#[]:=Array.eq_empty_of_size_eq_zero h0
  subst e0
  go_enter Tryz.func84,Tryz.ntmps84
  go_wp2
  go_ret
  exact ⟨rfl,rfl⟩
 ·obtain ⟨b,off,rfl,_,hc⟩:=h h0
  have hM:=Tryz.slices_Min_int b off d.size c d.toList w h0 (by simp) (by omega) (fun j hj=>by rw [hc j (by simpa using hj),qgs])
  rw [show d.toList.take d.size=d.toList from List.take_of_length_le (by simp)] at hM
  have HM:=hI hM;clear hM hc
  have hb:((d.size:Int) == 0)=false:=beq_eq_false_iff_ne.2 (by omega)
  have HL:Hid (Lib.minOf d.toList=qeg d):=rfl
  generalize Lib.minOf d.toList=v at HM HL
  go_enter Tryz.func84,Tryz.ntmps84
  go_wp2_with (go_at_call 167;refine HM.out.mono ?_;rintro e w' ⟨rfl,rfl⟩)
  go_ret
  exact ⟨qan HL.out,rfl⟩
end Go.Proofs.YtlkmagmdhopcjaaGreat
namespace Go.Proofs.YtlkmagmdhopcjaaGreat
open Go.RowKit Go.Sort Go.Lib
theorem qdu:(Tryz.prog.info? 3).map (fun i=>(i.zero,i.size,i.bytes))=some (some (.int .i64 0),1,8):=by kernel_rfl
theorem qmq {w:World} {base:Nat} {e:TypeId} {v:Value} {l:List Int} (h:w.ownsRow base e 1 v l.length (l.map (Value.int .i64))) :
 ∃ A c,v=.slice A l.length c∧RdI_R w.heap.size w A l.toArray:=by
 rcases Nat.eq_zero_or_pos l.length with h0 | h0
 ·have:l=[]:=List.eq_nil_of_length_eq_zero h0
  subst this
  obtain ⟨_,⟨rfl,_⟩ | ⟨g,cap,cur,hv,_⟩⟩:=h
  ·exact ⟨none,0,rfl,RdI_R.none_⟩
  ·exact ⟨_,cap,hv,RdI_R.none_⟩
 ·have hn:v≠.slice none 0 0:=by
   rintro rfl
   obtain ⟨_,⟨_,h1⟩ | ⟨g,cap,cur,hv,_⟩⟩:=h
   ·omega
   ·cases hv
  have h':w.ownsRow base e 1 v l.toArray.size (l.toArray.toList.map (Value.int .i64)):=h
  obtain ⟨g,cap,hv,_,hlt,hH⟩:=qii h' hn
  exact ⟨_,cap,hv,fun _=>⟨g,0,rfl,hlt,fun i hi=>(hH i hi).1⟩⟩
theorem own_snoc {w:World} {base:Nat} {e:TypeId} {v:Value} {l:List Int} {x:Int} (h:w.ownsRow base e 1 v (l.length + 1) (l.map (Value.int .i64) ++ [.int .i64 x])):w.ownsRow base e 1 v (l ++ [x]).length ((l ++ [x]).map (Value.int .i64)):=by
 simpa using h
theorem qmr {w:World} {base:Nat} {e:TypeId} {s n:Nat} {v:Value} {xs:List Value} (h:w.ownsRow base e s v n xs) (k:Nat) (hk:v.ownBlock=some k):base≤k:=by
 obtain ⟨_,⟨rfl,_⟩ | ⟨g,cap,cur,rfl,hb,_⟩⟩:=h
 ·cases hk
 ·have:g=k:=by simpa [Value.ownBlock] using hk
  omega
theorem qjq (w:World) (x:Value) (e:TypeId) (j:Nat) (u:Value) (h:[x][j]?=some u):(w.alloc (.cells #[x] e)).cell? (Addr.add ⟨w.heap.size,0,none⟩ j)=some u:=by
 have hj:j=0:=by
  rcases Nat.eq_zero_or_pos j with h0 | h0
  ·exact h0
  ·obtain ⟨i,rfl⟩:∃ i,j=i + 1:=⟨j - 1,by omega⟩
   simp at h
 subst hj
 have:x=u:=by simpa using h
 subst this
 exact qbb w _ _ 0
theorem qfm {w wr w1:World} {o:Obj} {e:TypeId} {s n:Nat} {v:Value} {xs:List Value} (hb:Below w.heap.size w wr) (hown:wr.ownsRow w.heap.size e s v n xs) (hg:(wr.alloc o).grownBy w1 v.ownBlock):Below w.heap.size w w1 :=
 (qab hb o).grown hg (qab hb o).size (qmr hown)
end Go.Proofs.YtlkmagmdhopcjaaGreat
namespace Go.Proofs.YtlkmagmdhopcjaaGreat
open Go.RowKit Go.Sort Go.Lib
def qjr (d1 d2:Array Int) (i:Nat):Int:=if i < d1.size then (if i < d2.size then max d1[i]! d2[i]! else d1[i]!) else d2[i]!
def qda (d1 d2:Array Int):Array Int:=((List.range (max d1.size d2.size)).map (qjr d1 d2)).toArray
theorem qcd (d1 d2:Array Int):(qda d1 d2).size=max d1.size d2.size:=by simp [qda]
theorem qms (d1 d2:Array Int) (i:Nat) (h:i < max d1.size d2.size):(qda d1 d2)[i]! = qjr d1 d2 i:=by
 rw [getElem!_pos _ i (by rw [qcd];exact h)];simp [qda]
theorem qvv {w:World} {g:Nat} {d1 d2:Array Int} (hg:g < w.heap.size) (h:∀ j,j < max d1.size d2.size→w.cell? ⟨g,j,none⟩=some (.int .i64 (qjr d1 d2 j))):RdI_R w.heap.size w (some ⟨g,0,none⟩) (qda d1 d2):=fun _ =>
 ⟨g,0,rfl,hg,fun i hi=>by rw [qcd] at hi;rw [Nat.zero_add,h i hi,qms _ _ _ hi]⟩
theorem qcn (w:World) (p q:Addr) (v:Value):(w.setCell p v).frozen? q=w.frozen? q:=by
 unfold World.frozen? World.setCell
 simp only [Array.getElem?_modify]
 by_cases h:p.block=q.block
 ·rw [if_pos h,←h]
  cases hh:w.heap[p.block]? with
  | none=>rfl
  | some o=>cases o <;> rfl
 ·rw [if_neg h]
theorem qfw (w:World) (g k:Nat) (u v:Value) (h:w.cell? ⟨g,k,none⟩=some u):(w.setCell ⟨g,k,none⟩ v).cell? ⟨g,k,none⟩=some v:=by
 simp [go_sem,h]
set_option maxHeartbeats 2000000 in
set_option maxRecDepth 100000 in
theorem Merge_any (A1 A2:Option Addr) (c1 c2:Nat) (d1 d2:Array Int) (w:World) (h1:RdI_R w.heap.size w A1 d1) (h2:RdI_R w.heap.size w A2 d2) (hd1:d1.size≤100000000) (hd2:d2.size≤100000000) :
 Calls Tryz.prog 81 #[.slice A1 d1.size c1,.slice A2 d2.size c2] w fun e w'=>∃ A c,e=.returned (.slice A (qda d1 d2).size c)∧RdI_R w'.heap.size w' A (qda d1 d2)∧Below w.heap.size w w':=by
 by_cases hl:d1.size < d2.size
 ·have hlz:(d1.size:Int) < (d2.size:Int):=by omega
  have hd0:0 < d2.size:=by omega
  go_enter Tryz.func81,Tryz.ntmps81
  go_wp2_with fail
  refine (CloneI _ _ d2 w.heap.size _ h2 (by omega)).mono ?_
  rintro e w1 ⟨A',c',rfl,hrow,hb1⟩
  obtain ⟨g,rfl,hg1,hg2,hH⟩:=hrow hd0
  have HH:=hI hH
  clear hrow hH
  go_wp2
  go_loopw [19] (fun i wr=>∃ k:Nat,k≤d1.size∧i=.int .i64 k∧Below w.heap.size w wr∧g < wr.heap.size∧∀ j,j < d2.size→wr.cell? ⟨g,j,none⟩=some (.int .i64 (if j < k then qjr d1 d2 j else d2[j]!))∧wr.frozen? ⟨g,j,none⟩=false) (fun i _=>d1.size - (intOf i).toNat)
  case atStart=>exact ⟨0,Nat.zero_le _,rfl,hb1,hg2,fun j hj=>by
   have:=HH.out j hj
   rw [Nat.zero_add] at this
   exact ⟨by rw [this.1,if_neg (by omega)];rfl,this.2⟩⟩
  case round =>
   obtain ⟨k,hk,rfl,hb,hgr,hcells⟩:=hrel
   by_cases hlt:k < d1.size
   ·obtain ⟨b,off,rfl,_,hc⟩:=(h1.below hb).at_ hlt
    obtain ⟨hck,hfk⟩:=hcells k (by omega)
    rw [if_neg (by omega)] at hck
    have HV:Hid (qjr d1 d2 k=max d1[k]! d2[k]!):=by show _=_;unfold qjr;rw [if_pos (by omega),if_pos (by omega)]
    have HCL:=hI hcells;clear hcells
    generalize d1[k]! = x at hc hck HV
    generalize d2[k]! = y at hc hck HV
    have kz:(k:Int) < (d1.size:Int):=by omega
    have kz2:(k:Int) < (d2.size:Int):=by omega
    go_wp2
    go_roundw
    case rel=>exact ⟨k + 1,by omega,by go_num,hb.setCell (show w.heap.size≤g by omega) _,by simpa [World.setCell] using hgr,fun j hj=>by
     obtain ⟨h1,h2⟩:=HCL.out j hj
     by_cases hjk:j=k
     ·subst hjk
      exact ⟨by rw [if_pos (by omega),HV.out];rw [Int.max_comm];exact qfw _ _ _ _ _ hck,by rw [qcn];exact h2⟩
     ·exact ⟨by rw [World.cell?_setCell_other _ _ _ _ (fun e=>hjk (by simpa using (congrArg Addr.off e).symm)),h1];congr 2;by_cases h3:j < k <;> simp [h3] <;> (try omega),by rw [qcn];exact h2⟩⟩
    case measure=>simp [intOf];omega
   ·obtain rfl:k=d1.size:=by omega
    have HCL:=hI hcells;clear hcells
    go_wp2
    go_ret
    refine ⟨some ⟨g,0,none⟩,c',by rw [qcd,show max d1.size d2.size=d2.size by omega];rfl,qvv hgr fun j hj=>?_,hb⟩
    rw [(HCL.out j (by omega)).1]
    congr 2
    by_cases h3:j < d1.size
    ·rw [if_pos h3]
    ·rw [if_neg h3];unfold qjr;rw [if_neg h3]
 ·have hlz:(d2.size:Int)≤(d1.size:Int):=by omega
  have hld:decide ((d1.size:Int) < (d2.size:Int))=false:=by simp;omega
  rcases Nat.eq_zero_or_pos d1.size with h0 | h0
  ·obtain rfl:d1=#[]:=Array.eq_empty_of_size_eq_zero h0
   obtain rfl:d2=#[]:=Array.eq_empty_of_size_eq_zero (by simp at hl;omega)
   clear hl h0 hlz hld
   go_enter Tryz.func81,Tryz.ntmps81
   go_wp2_with fail
   refine (CloneI _ _ #[] w.heap.size _ h1 (by simp)).mono ?_
   rintro e w1 ⟨A',c',rfl,_,hb1⟩
   go_wp2
   refine wp_loop_rounds 1 ?_;rw [rounds_succ]
   go_wp2
   go_ret
   exact ⟨_,_,rfl,RdI_R.none_,hb1⟩
  have hd0:0 < d1.size:=by omega
  go_enter Tryz.func81,Tryz.ntmps81
  go_wp2_with fail
  refine (CloneI _ _ d1 w.heap.size _ h1 (by omega)).mono ?_
  rintro e w1 ⟨A',c',rfl,hrow,hb1⟩
  obtain ⟨g,rfl,hg1,hg2,hH⟩:=hrow hd0
  have HH:=hI hH
  clear hrow hH
  go_wp2
  go_loopw [19] (fun i wr=>∃ k:Nat,k≤d2.size∧i=.int .i64 k∧Below w.heap.size w wr∧g < wr.heap.size∧∀ j,j < d1.size→wr.cell? ⟨g,j,none⟩=some (.int .i64 (if j < k then qjr d1 d2 j else d1[j]!))∧wr.frozen? ⟨g,j,none⟩=false) (fun i _=>d2.size - (intOf i).toNat)
  case atStart=>exact ⟨0,Nat.zero_le _,rfl,hb1,hg2,fun j hj=>by
   have:=HH.out j hj
   rw [Nat.zero_add] at this
   exact ⟨by rw [this.1,if_neg (by omega)];rfl,this.2⟩⟩
  case round =>
   obtain ⟨k,hk,rfl,hb,hgr,hcells⟩:=hrel
   by_cases hlt:k < d2.size
   ·obtain ⟨b,off,rfl,_,hc⟩:=(h2.below hb).at_ hlt
    obtain ⟨hck,hfk⟩:=hcells k (by omega)
    rw [if_neg (by omega)] at hck
    have HV:Hid (qjr d1 d2 k=max d1[k]! d2[k]!):=by show _=_;unfold qjr;rw [if_pos (by omega),if_pos (by omega)]
    have HCL:=hI hcells;clear hcells
    generalize d1[k]! = x at hc hck HV
    generalize d2[k]! = y at hc hck HV
    have kz:(k:Int) < (d2.size:Int):=by omega
    have kz2:(k:Int) < (d1.size:Int):=by omega
    go_wp2
    go_roundw
    case rel=>exact ⟨k + 1,by omega,by go_num,hb.setCell (show w.heap.size≤g by omega) _,by simpa [World.setCell] using hgr,fun j hj=>by
     obtain ⟨h1,h2⟩:=HCL.out j hj
     by_cases hjk:j=k
     ·subst hjk
      exact ⟨by rw [if_pos (by omega),HV.out];exact qfw _ _ _ _ _ hck,by rw [qcn];exact h2⟩
     ·exact ⟨by rw [World.cell?_setCell_other _ _ _ _ (fun e=>hjk (by simpa using (congrArg Addr.off e).symm)),h1];congr 2;by_cases h3:j < k <;> simp [h3] <;> (try omega),by rw [qcn];exact h2⟩⟩
    case measure=>simp [intOf];omega
   ·obtain rfl:k=d2.size:=by omega
    have HCL:=hI hcells;clear hcells
    go_wp2
    go_ret
    refine ⟨some ⟨g,0,none⟩,c',by rw [qcd,show max d1.size d2.size=d1.size by omega];rfl,qvv hgr fun j hj=>?_,hb⟩
    rw [(HCL.out j (by omega)).1]
    congr 2
    by_cases h3:j < d2.size
    ·rw [if_pos h3]
    ·rw [if_neg h3];unfold qjr;rw [if_pos (by omega),if_neg h3]
end Go.Proofs.YtlkmagmdhopcjaaGreat
