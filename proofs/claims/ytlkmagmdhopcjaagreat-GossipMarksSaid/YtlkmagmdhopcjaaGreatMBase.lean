/- Small words of our own: results, regions that read and call in worlds that have only grown, slices that read as lists. Contracts of the plain functions of ident and of rubatoref02: what each returns, for every input. Numbers as bytes, in plain words: what is laid, what is read, and that the one comes back of the other. Pieces of bytes, in plain words: rows, texts and flags laid and read; what was laid is read, and what is read was laid. -/
import Derived.WalkKit
import Derived.WalkSpells
import Derived.Outline
import Derived.Deep.QuietTactic
import Derived.BigQuiet
import Derived.BigGuardPart
import Derived.WalkLawsBesides
import Derived.Lib.Hide
import Derived.Deep.Quiet
import Derived.StillTailTactics
import Derived.Test.YtlkmagmdhopcjaaGreatRows
namespace Go.Proofs.YtlkmagmdhopcjaaGreat
open Go.RowKit
theorem hI {p:Prop} (h:p):Hid p:=h
theorem qan {k:IntKind} {a b:Int} (h:a=b):Ending.returned (.int k a)=.returned (.int k b):=by rw [h]
theorem qex {k k':IntKind} {a b c d:Int} (h:a=b) (h':c=d):Ending.returned (.tuple #[.int k a,.int k' c])=.returned (.tuple #[.int k b,.int k' d]):=by rw [h,h']
theorem qac {a b:Bool} (h:a=b):Ending.returned (.bool a)=.returned (.bool b):=by rw [h]
theorem bel1 (w:World) (o:Obj):Below w.heap.size w (w.alloc o):=(Below.refl _ _).alloc (Nat.le_refl _) _
theorem qbc {B:Nat} {a w:World} (h:Below B a w) (n:Nat):Below B a (w.drewN n):=⟨h.os,h.tape,h.output,h.size,h.block⟩
theorem qaa {w a b:World} (h:Below w.heap.size w a) (k:Below a.heap.size a b):Below w.heap.size w b:=h.trans (k.mono h.size)
theorem qab {w a:World} (h:Below w.heap.size w a) (o:Obj):Below w.heap.size w (a.alloc o):=h.alloc h.size o
structure ExtW (w:World) where
 to:World
 h:Below w.heap.size w to
instance (w:World):Inhabited (ExtW w):=⟨⟨w,Below.refl _ _⟩⟩
theorem ExtW.cell {w:World} {a:Addr} {v:Value} (hb:a.block < w.heap.size) (h:w.cell? a=some v) (p:ExtW w):p.to.cell? a=some v:=by
 rw [p.h.cell hb];exact h
theorem qad {P:Program} {id:Nat} {Q:Exit→Act→World→Prop} {a:Act} {w:World} {l:List Oper} (hm:P.follows .mixedOrders=true) (hB:Region.lexB .any l.toArray=true)
 (h:wpQuiet P l.toArray (fun w'=>∃ p:ExtW w,w'=p.to) (fun a'=>∀ w',(∃ p:ExtW w,w'=p.to)→Q .normal a' w') l a):(Code.region id l.toArray true).wp P Q a w :=
 wp_region_quiet (C:=fun w'=>∃ p:ExtW w,w'=p.to) hm hB ⟨⟨w.drew,(Below.refl _ _).drew⟩,rfl⟩ (by simpa using h)
theorem Calls.ext_of {P:Program} {f:FuncId} {args:Array Value} {w:World} {p:ExtW w} {v:Value}
 (h:Calls P f args p.to fun e w'=>e=.returned v∧Below p.to.heap.size p.to w'):Calls P f args p.to fun e w''=>e=.returned v∧∃ q:ExtW w,w''=q.to :=
 h.mono fun _ w' ⟨he,hq⟩=>⟨he,⟨w',p.h.trans (hq.mono p.h.size)⟩,rfl⟩
theorem Calls.ext_same {P:Program} {f:FuncId} {args:Array Value} {w:World} {p:ExtW w} {v:Value}
 (h:Calls P f args p.to fun e w'=>e=.returned v∧p.to=w'):Calls P f args p.to fun e w''=>e=.returned v∧∃ q:ExtW w,w''=q.to :=
 h.mono fun _ _ ⟨he,hq⟩=>⟨he,p,hq.symm⟩
theorem qnl {P:Program} {id:Nat} {Q:Exit→Act→World→Prop} {a:Act} {w:World} {l:List Oper} (n:Nat) (hm:P.follows .mixedOrders=true) (hB:Region.lexTailB .any l.toArray n=true)
 (h:wpStill P l.toArray w.drew (fun a'=>wpList P l.toArray Q (l.drop n) a' w.drew) (l.take n) a):(Code.region id l.toArray true).wp P Q a w :=
 wp_region_still_tail n hm hB h
theorem qck {fn:Func} (h:fn.results=#[]) (tmps:Array Value) (P:Program) (w:World):(results fn tmps).run P w=.ok (.tuple #[]) w:=by simp [results,h]
end Go.Proofs.YtlkmagmdhopcjaaGreat
namespace Go.Proofs.YtlkmagmdhopcjaaGreat
open Go.RowKit
def qef (id:Int):Int:=if id < 10∨999999 < id∨id % 10=0 then 31 else 0
def qbe (id:Int):Int:=if id < 10∨999999 < id∨id % 10=0 then 0 else id % 10
def qid (id:Int):Int:=if id < 10∨999999 < id∨id % 10=0 then 0 else id / 10
set_option maxHeartbeats 400000 in
theorem qcb (id:Int) (w:World) :
 Calls Tryz.prog 130 #[.int .i64 id] w fun e w'=>e=.returned (.int .i64 (qef id))∧w=w':=by
 go_enter Tryz.func130,Tryz.ntmps130
 go_wp2
 all_goals
  go_ret
  exact ⟨qan (by unfold qef;split <;> simp_all <;> omega),rfl⟩
theorem qnv {id:Int} (h:id < 10∨999999 < id∨id % 10=0):qef id=31:=by unfold qef;rw [if_pos h]
theorem qqn {id:Int} (h:¬ (id < 10∨999999 < id∨id % 10=0)):qef id=0:=by unfold qef;rw [if_neg h]
theorem qky (id:Int) (w:World) :
 Calls Tryz.prog 66 #[.int .i64 id] w fun e w'=>e=.returned (.int .i64 (qbe id))∧w=w':=by
 by_cases h:id < 10∨999999 < id∨id % 10=0
 ·have hc:=qnv h
  have H:=hI h;clear h
  go_enter Tryz.func66,Tryz.ntmps66
  go_wp2_with (go_at_call 130;refine (qcb _ _).mono ?_;rintro e w' ⟨rfl,rfl⟩)
  go_ret
  exact ⟨qan (by unfold qbe;rw [if_pos H.out]),rfl⟩
 ·have hc:=qqn h
  have h0:0≤id:=by omega
  have h9:id≤999999:=by omega
  have H:=hI h;clear h
  go_enter Tryz.func66,Tryz.ntmps66
  go_wp2_with (go_at_call 130;refine (qcb _ _).mono ?_;rintro e w' ⟨rfl,rfl⟩)
  go_ret
  exact ⟨qan (by unfold qbe;rw [if_neg H.out]),rfl⟩
theorem Seq_any (id:Int) (w:World) :
 Calls Tryz.prog 227 #[.int .i64 id] w fun e w'=>e=.returned (.int .i64 (qid id))∧w=w':=by
 by_cases h:id < 10∨999999 < id∨id % 10=0
 ·have hc:=qnv h
  have H:=hI h;clear h
  go_enter Tryz.func227,Tryz.ntmps227
  go_wp2_with (go_at_call 130;refine (qcb _ _).mono ?_;rintro e w' ⟨rfl,rfl⟩)
  go_ret
  exact ⟨qan (by unfold qid;rw [if_pos H.out]),rfl⟩
 ·have hc:=qqn h
  have h0:0≤id:=by omega
  have h9:id≤999999:=by omega
  have H:=hI h;clear h
  go_enter Tryz.func227,Tryz.ntmps227
  go_wp2_with (go_at_call 130;refine (qcb _ _).mono ?_;rintro e w' ⟨rfl,rfl⟩)
  go_ret
  exact ⟨qan (by unfold qid;rw [if_neg H.out]),rfl⟩
def mayN (n:Int):Bool:=decide (3≤n∧n≤9)
def ownS (b n:Int):Int:=(b - 1) % n + 1
theorem ownS_bd (b n:Int) (h:3≤n):1≤ownS b n∧ownS b n≤n:=by
 unfold ownS;have:=Int.emod_nonneg (b - 1) (show n≠0 by omega);have:=Int.emod_lt_of_pos (b - 1) (show 0 < n by omega);omega
theorem qll (n:Int) (w:World) :
 Calls Tryz.prog 193 #[.int .i64 n] w fun e w'=>e=.returned (.bool (mayN n))∧w=w':=by
 go_enter Tryz.func193,Tryz.ntmps193
 go_wp2
 all_goals
  go_ret
  exact ⟨qac (by unfold mayN;simp <;> omega),rfl⟩
theorem quq (b n:Int) (a:Addr) (w:World) (hc:w.cell? a=some (.int .i64 n)) (hb:1≤b) (hb':b≤2000000) (hn:3≤n) (hn':n≤9) :
 Calls Tryz.prog 238 #[.int .i64 b,.pointer (some a)] w fun e w'=>e=.returned (.int .i64 (ownS b n))∧w=w':=by
 have h1:=Int.emod_nonneg (b - 1) (show n≠0 by omega)
 have h2:=Int.emod_lt_of_pos (b - 1) (show 0 < n by omega)
 go_enter Tryz.func238,Tryz.ntmps238
 go_wp2
 go_ret
 exact ⟨rfl,rfl⟩
theorem qnw (n:Int) (w:World) :
 Calls Tryz.prog 194 #[.int .i64 n] w fun e w'=>e=.returned (.func (.func 238) #[] #[.pointer (some ⟨w.heap.size,0,none⟩)])∧w'=w.alloc (.cells #[.int .i64 n] 3):=by
 go_enter Tryz.func194,Tryz.ntmps194
 go_wp2
 go_ret
 exact ⟨rfl,rfl⟩
theorem mayN_yes {n:Int} (h:3≤n) (h':n≤9):mayN n=true:=by unfold mayN;simp;omega
theorem mayN_no {n:Int} (h:n < 3∨9 < n):mayN n=false:=by unfold mayN;simp;omega
def cand (m self n:Int):Int:=m + 1 + (self - ownS (m + 1) n) % n
def qnm (b n:Int):Int:=if b < n then n else b
def qim (b self n:Int):Int:=if n < 3∨9 < n∨self < 1∨n < self∨b < 0∨1000000 < b then 0 else if 1000000 < cand (qnm b n) self n then 0 else cand (qnm b n) self n
def qjv (b self n:Int):Int:=if n < 3∨9 < n∨self < 1∨n < self∨b < 0∨1000000 < b then 2 else if 1000000 < cand (qnm b n) self n then 8 else 0
set_option maxHeartbeats 1000000 in
theorem Next_any (b self n:Int) (w:World) :
 Calls Tryz.prog 131 #[.int .i64 b,.int .i64 self,.int .i64 n] w fun e w'=>e=.returned (.tuple #[.int .i64 (qim b self n),.int .i64 (qjv b self n)])∧Below w.heap.size w w':=by
 by_cases h1:n < 3∨9 < n
 ·have HN:Hid (qim b self n=0):=by unfold qim;rw [if_pos (by omega)];rfl
  have HE:Hid (qjv b self n=2):=by unfold qjv;rw [if_pos (by omega)];rfl
  have hm:=mayN_no h1
  clear h1
  go_enter Tryz.func131,Tryz.ntmps131
  go_wp2_with (go_at_call 193;refine (qll _ _).mono ?_;rintro e w' ⟨rfl,rfl⟩)
  go_ret2
  exact ⟨qex HN.out.symm HE.out.symm,Below.refl _ _⟩
 have h2:3≤n:=by omega
 have h3:n≤9:=by omega
 have hm:=mayN_yes h2 h3
 clear h1
 by_cases hb:b < n
 ·have hB:Hid (qnm b n=n):=by unfold qnm;rw [if_pos hb];rfl
  obtain ⟨o1,o2⟩:=ownS_bd (n + 1) n h2
  have r1:=Int.emod_nonneg (self - ownS (n + 1) n) (show n≠0 by omega)
  have r2:=Int.emod_lt_of_pos (self - ownS (n + 1) n) (show 0 < n by omega)
  go_enter Tryz.func131,Tryz.ntmps131
  go_wp2_with (first | (go_at_call 193;refine (qll _ _).mono ?_;rintro e w' ⟨rfl,rfl⟩) | (go_at_call 194;refine (qnw _ _).mono ?_;rintro e w' ⟨rfl,rfl⟩) | (go_at_call 238;refine (quq _ n _ _ (by simp [go_sem]) (by omega) (by omega) h2 h3).mono ?_;rintro e w' ⟨rfl,rfl⟩))
  all_goals first
   | (exfalso;omega)
   | (go_ret2;refine ⟨qex ?_ ?_,Below.refl _ _⟩;(unfold qim;rw [if_pos];omega);(unfold qjv;rw [if_pos];omega))
   | (go_ret2;exact ⟨qex (by unfold qim;rw [if_neg (by omega),hB.out];unfold cand;split <;> omega) (by unfold qjv;rw [if_neg (by omega),hB.out];unfold cand;split <;> omega),bel1 _ _⟩)
 ·have hB:Hid (qnm b n=b):=by unfold qnm;rw [if_neg hb];rfl
  obtain ⟨o1,o2⟩:=ownS_bd (b + 1) n h2
  have r1:=Int.emod_nonneg (self - ownS (b + 1) n) (show n≠0 by omega)
  have r2:=Int.emod_lt_of_pos (self - ownS (b + 1) n) (show 0 < n by omega)
  go_enter Tryz.func131,Tryz.ntmps131
  go_wp2_with (first | (go_at_call 193;refine (qll _ _).mono ?_;rintro e w' ⟨rfl,rfl⟩) | (go_at_call 194;refine (qnw _ _).mono ?_;rintro e w' ⟨rfl,rfl⟩) | (go_at_call 238;refine (quq _ n _ _ (by simp [go_sem]) (by omega) (by omega) h2 h3).mono ?_;rintro e w' ⟨rfl,rfl⟩))
  all_goals first
   | (exfalso;omega)
   | (go_ret2;refine ⟨qex ?_ ?_,Below.refl _ _⟩;(unfold qim;rw [if_pos];omega);(unfold qjv;rw [if_pos];omega))
   | (go_ret2;exact ⟨qex (by unfold qim;rw [if_neg (by omega),hB.out];unfold cand;split <;> omega) (by unfold qjv;rw [if_neg (by omega),hB.out];unfold cand;split <;> omega),bel1 _ _⟩)
end Go.Proofs.YtlkmagmdhopcjaaGreat
namespace Go.Proofs.YtlkmagmdhopcjaaGreat.Nb
def be (n:Nat):List UInt8:=if _h:n=0 then [] else be (n / 256) ++ [UInt8.ofNat (n % 256)]
 termination_by n
 decreasing_by omega
def val (l:List UInt8):Nat:=l.foldl (fun a b=>256 * a + b.toNat) 0
end Go.Proofs.YtlkmagmdhopcjaaGreat.Nb
namespace Go.Proofs.YtlkmagmdhopcjaaGreat.Nb
structure RS where
 pos:Nat
 e:Nat
section
variable {s t:List UInt8} {r:RS} {most:Nat}
end
end Go.Proofs.YtlkmagmdhopcjaaGreat.Nb
