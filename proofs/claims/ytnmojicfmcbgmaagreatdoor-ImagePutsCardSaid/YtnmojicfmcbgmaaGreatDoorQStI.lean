/- Texts that the law leans on. -/
import Derived.Test.YtnmojicfmcbgmaaGreatDoorQStF
namespace Go.Proofs.YtnmojicfmcbgmaaGreatDoor
open Go.RowKit Go.Sort Go.Lib
set_option maxRecDepth 100000
structure BoxG (w:World) (g:Nat) (cs:Array Value) (T:TypeId) (W:World):Prop where
 b:Below w.heap.size w W
 row:W.heap[g]?=some (.cells cs T (0,0))
theorem BoxG.lt {w W:World} {g:Nat} {cs:Array Value} {t:TypeId} (h:BoxG w g cs t W):g < W.heap.size:=by
 rcases Nat.lt_or_ge g W.heap.size with k | k
 ·exact k
 ·have:=h.row
  rw [Array.getElem?_eq_none k] at this
  cases this
theorem BoxG.next {w W W':World} {g:Nat} {cs:Array Value} {t:TypeId} (h:BoxG w g cs t W) (hb:Below W.heap.size W W'):BoxG w g cs t W' :=
 ⟨qac h.b hb,(hb.block _ h.lt).trans h.row⟩
theorem BoxG.at_ {w W:World} {g:Nat} {cs:Array Value} {t:TypeId} (h:BoxG w g cs t W) (j:Nat) {v:Value} (hj:cs[j]?=some v):W.cell? ⟨g,j,none⟩=some v:=by
 rw [cell_of_row W _ j cs t (0,0) h.row];exact hj
theorem BoxG.fst (w:World) (cs cs':Array Value) (t t':TypeId):BoxG w w.heap.size cs t ((w.alloc (.cells cs t)).alloc (.cells cs' t')) :=
 ⟨qad (bel1 w _) _,((bel1 (w.alloc (.cells cs t)) (.cells cs' t')).block _ (by simp)).trans (heap_alloc_new w _)⟩
theorem BoxG.snd (w:World) (cs cs':Array Value) (t t':TypeId):BoxG w (w.heap.size + 1) cs' t' ((w.alloc (.cells cs t)).alloc (.cells cs' t')) :=
 ⟨qad (bel1 w _) _,heap_alloc2_new w _ _⟩
theorem eqA_M (x y:Int×Int) (w:World):(binOp .eql 29 (.agg #[.int .i64 x.1,.int .i64 x.2]) (.agg #[.int .i64 y.1,.int .i64 y.2])).run Tryz.prog w=.ok (.bool (decide (x=y))) w:=by
 have hS:Tryz.prog.underlying 29 = some (.struct (Tryz.prog.fieldsOf 29)):=by kernel_rfl
 have hp:Tryz.prog.stoodInHeld 29 = false:=by kernel_rfl
 have u3:=Tryz.underlying3
 rw [run_eql_struct,show (10000:Nat)=9999 + 1 from rfl,run_equalIn_agg w 9999 29 _ _ hS hp]
 simp only [Program.fieldsOf,Tryz.underlying29]
 go_simp
 obtain ⟨x1,x2⟩:=x
 obtain ⟨y1,y2⟩:=y
 by_cases h1:x1=y1 <;> by_cases h2:x2=y2 <;> simp [h1,h2]
theorem neA_M (x y:Int×Int) (w:World):(binOp .neq 29 (.agg #[.int .i64 x.1,.int .i64 x.2]) (.agg #[.int .i64 y.1,.int .i64 y.2])).run Tryz.prog w=.ok (.bool (!decide (x=y))) w:=by
 have hS:Tryz.prog.underlying 29 = some (.struct (Tryz.prog.fieldsOf 29)):=by kernel_rfl
 have hp:Tryz.prog.stoodInHeld 29 = false:=by kernel_rfl
 have u3:=Tryz.underlying3
 rw [run_neq_struct,show (10000:Nat)=9999 + 1 from rfl,run_equalIn_agg w 9999 29 _ _ hS hp]
 simp only [Program.fieldsOf,Tryz.underlying29]
 go_simp
 obtain ⟨x1,x2⟩:=x
 obtain ⟨y1,y2⟩:=y
 by_cases h1:x1=y1 <;> by_cases h2:x2=y2 <;> simp [h1,h2]
def qmn (a b:RP):Prop:=a.n=b.n∧a.f=b.f∧a.self=b.self∧a.clock=b.clock∧a.seq=b.seq∧a.floor=b.floor∧a.ticks=b.ticks∧a.lt=b.lt∧a.lid=b.lid∧a.count=b.count
instance (a b:RP):Decidable (qmn a b):=by unfold qmn;infer_instance
set_option maxHeartbeats 16000000 in
theorem qry (a b:RP) (w:World) (c1 c2 c3 c4 c5 c6:Bool)
 (h1:∀ W,Below w.heap.size w W→Calls Tryz.prog 102 #[.slice a.e.A a.e.z.size a.e.c,.slice b.e.A b.e.z.size b.e.c] W fun e w'=>e=.returned (.bool c1)∧Below W.heap.size W w')
 (h2:∀ W,Below w.heap.size w W→Calls Tryz.prog 103 #[.slice a.o.A a.o.z.size a.o.c,.slice b.o.A b.o.z.size b.o.c] W fun e w'=>e=.returned (.bool c2)∧Below W.heap.size W w')
 (h3:∀ W,Below w.heap.size w W→Calls Tryz.prog 104 #[.slice a.k.A a.k.z.size a.k.c,.slice b.k.A b.k.z.size b.k.c] W fun e w'=>e=.returned (.bool c3)∧Below W.heap.size W w')
 (h4:∀ W,Below w.heap.size w W→Calls Tryz.prog 105 #[.slice a.m.A a.m.z.size a.m.c,.slice b.m.A b.m.z.size b.m.c] W fun e w'=>e=.returned (.bool c4)∧Below W.heap.size W w')
 (h5:∀ W,Below w.heap.size w W→Calls Tryz.prog 106 #[.slice a.fr.A a.fr.z.size a.fr.c,.slice b.fr.A b.fr.z.size b.fr.c] W fun e w'=>e=.returned (.bool c5)∧Below W.heap.size W w')
 (h6:∀ W,Below w.heap.size w W→Calls Tryz.prog 107 #[.slice a.d.A a.d.z.size a.d.c,.slice b.d.A b.d.z.size b.d.c] W fun e w'=>e=.returned (.bool c6)∧Below W.heap.size W w') :
 Calls Tryz.prog 50 #[.agg (encP a).toArray,.agg (encP b).toArray] w fun e w'=>e=.returned (.bool (decide (qmn a b) && (c1 && c2 && c3 && c4 && c5 && c6)))∧Below w.heap.size w w':=by
 have H1:=hI h1
 have H2:=hI h2
 have H3:=hI h3
 have H4:=hI h4
 have H5:=hI h5
 have H6:=hI h6
 clear h1 h2 h3 h4 h5 h6
 obtain ⟨ca,hca⟩:∃ cs,cs=(encP a).toArray:=⟨_,rfl⟩
 obtain ⟨cb,hcb⟩:∃ cs,cs=(encP b).toArray:=⟨_,rfl⟩
 have HCA:=hI hca
 have HCB:=hI hcb
 rw [←hca,←hcb]
 simp only [encP] at hca hcb
 rw [hca,hcb]
 obtain ⟨x,hx⟩:∃ x,(decide (qmn a b) && (c1 && c2 && c3 && c4 && c5 && c6))=x:=⟨_,rfl⟩
 rw [hx]
 by_cases hh:qmn a b
 ·have HV:Hid (x=(c1 && c2 && c3 && c4 && c5 && c6)):=by show _=_;rw [←hx,decide_eq_true hh,Bool.true_and]
  obtain ⟨e0,e1,e2,e3,e4,e5,e6,e13,e14,e15⟩:=hh
  have hne:=fun W=>neA_M (a.lt,a.lid) (a.lt,a.lid) W
  have heq:=fun W=>eqA_M (a.lt,a.lid) (a.lt,a.lid) W
  simp only [decide_true,Bool.not_true] at hne heq
  clear hx
  go_enter Tryz.func50,Tryz.ntmps50
  rw [←hca,←hcb]
  clear hca hcb
  have HX:=hI (BoxG.fst w ca cb 35 35)
  have HY:=hI (BoxG.snd w ca cb 35 35)
  have a0:=HX.out.at_ 0 (v:=.int .i64 a.n) (by rw [HCA.out];rfl)
  have b0:=HY.out.at_ 0 (v:=.int .i64 b.n) (by rw [HCB.out];rfl)
  have a1:=HX.out.at_ 1 (v:=.int .i64 a.f) (by rw [HCA.out];rfl)
  have b1:=HY.out.at_ 1 (v:=.int .i64 b.f) (by rw [HCB.out];rfl)
  have a2:=HX.out.at_ 2 (v:=.int .i64 a.self) (by rw [HCA.out];rfl)
  have b2:=HY.out.at_ 2 (v:=.int .i64 b.self) (by rw [HCB.out];rfl)
  have a3:=HX.out.at_ 3 (v:=.int .i64 a.clock) (by rw [HCA.out];rfl)
  have b3:=HY.out.at_ 3 (v:=.int .i64 b.clock) (by rw [HCB.out];rfl)
  have a4:=HX.out.at_ 4 (v:=.int .i64 a.seq) (by rw [HCA.out];rfl)
  have b4:=HY.out.at_ 4 (v:=.int .i64 b.seq) (by rw [HCB.out];rfl)
  have a5:=HX.out.at_ 5 (v:=.int .i64 a.floor) (by rw [HCA.out];rfl)
  have b5:=HY.out.at_ 5 (v:=.int .i64 b.floor) (by rw [HCB.out];rfl)
  have a6:=HX.out.at_ 6 (v:=.int .i64 a.ticks) (by rw [HCA.out];rfl)
  have b6:=HY.out.at_ 6 (v:=.int .i64 b.ticks) (by rw [HCB.out];rfl)
  have a13:=HX.out.at_ 13 (v:=.int .i64 a.lt) (by rw [HCA.out];rfl)
  have b13:=HY.out.at_ 13 (v:=.int .i64 b.lt) (by rw [HCB.out];rfl)
  have a14:=HX.out.at_ 14 (v:=.int .i64 a.lid) (by rw [HCA.out];rfl)
  have b14:=HY.out.at_ 14 (v:=.int .i64 b.lid) (by rw [HCB.out];rfl)
  have a15:=HX.out.at_ 15 (v:=.int .i64 a.count) (by rw [HCA.out];rfl)
  have b15:=HY.out.at_ 15 (v:=.int .i64 b.count) (by rw [HCB.out];rfl)
  rw [←e0] at b0
  rw [←e1] at b1
  rw [←e2] at b2
  rw [←e3] at b3
  rw [←e4] at b4
  rw [←e5] at b5
  rw [←e6] at b6
  rw [←e13] at b13
  rw [←e14] at b14
  rw [←e15] at b15
  clear e0 e1 e2 e3 e4 e5 e6 e13 e14 e15
  have a7:=HX.out.at_ 7 (v:=.slice a.e.A a.e.z.size a.e.c) (by rw [HCA.out];rfl)
  have b7:=HY.out.at_ 7 (v:=.slice b.e.A b.e.z.size b.e.c) (by rw [HCB.out];rfl)
  have a8:=HX.out.at_ 8 (v:=.slice a.o.A a.o.z.size a.o.c) (by rw [HCA.out];rfl)
  have b8:=HY.out.at_ 8 (v:=.slice b.o.A b.o.z.size b.o.c) (by rw [HCB.out];rfl)
  have a9:=HX.out.at_ 9 (v:=.slice a.k.A a.k.z.size a.k.c) (by rw [HCA.out];rfl)
  have b9:=HY.out.at_ 9 (v:=.slice b.k.A b.k.z.size b.k.c) (by rw [HCB.out];rfl)
  have a10:=HX.out.at_ 10 (v:=.slice a.m.A a.m.z.size a.m.c) (by rw [HCA.out];rfl)
  have b10:=HY.out.at_ 10 (v:=.slice b.m.A b.m.z.size b.m.c) (by rw [HCB.out];rfl)
  have a11:=HX.out.at_ 11 (v:=.slice a.fr.A a.fr.z.size a.fr.c) (by rw [HCA.out];rfl)
  have b11:=HY.out.at_ 11 (v:=.slice b.fr.A b.fr.z.size b.fr.c) (by rw [HCB.out];rfl)
  have a12:=HX.out.at_ 12 (v:=.slice a.d.A a.d.z.size a.d.c) (by rw [HCA.out];rfl)
  have b12:=HY.out.at_ 12 (v:=.slice b.d.A b.d.z.size b.d.c) (by rw [HCB.out];rfl)
  cases c1
  ·go_wp2_with (first
    | (go_at_call 102;refine (H1.out _ HX.out.b).mono ?_;rintro _ w1 ⟨rfl,hb⟩;have HX:=hI (HX.out.next hb);have HY:=hI (HY.out.next hb);clear hb;have a8:=HX.out.at_ 8 (v:=.slice a.o.A a.o.z.size a.o.c) (by rw [HCA.out];rfl);have b8:=HY.out.at_ 8 (v:=.slice b.o.A b.o.z.size b.o.c) (by rw [HCB.out];rfl);have a9:=HX.out.at_ 9 (v:=.slice a.k.A a.k.z.size a.k.c) (by rw [HCA.out];rfl);have b9:=HY.out.at_ 9 (v:=.slice b.k.A b.k.z.size b.k.c) (by rw [HCB.out];rfl);have a10:=HX.out.at_ 10 (v:=.slice a.m.A a.m.z.size a.m.c) (by rw [HCA.out];rfl);have b10:=HY.out.at_ 10 (v:=.slice b.m.A b.m.z.size b.m.c) (by rw [HCB.out];rfl);have a11:=HX.out.at_ 11 (v:=.slice a.fr.A a.fr.z.size a.fr.c) (by rw [HCA.out];rfl);have b11:=HY.out.at_ 11 (v:=.slice b.fr.A b.fr.z.size b.fr.c) (by rw [HCB.out];rfl);have a12:=HX.out.at_ 12 (v:=.slice a.d.A a.d.z.size a.d.c) (by rw [HCA.out];rfl);have b12:=HY.out.at_ 12 (v:=.slice b.d.A b.d.z.size b.d.c) (by rw [HCB.out];rfl)))
   go_ret
   exact ⟨qag (by rw [HV.out];simp),HX.out.b⟩
  cases c2
  ·go_wp2_with (first
    | (go_at_call 102;refine (H1.out _ HX.out.b).mono ?_;rintro _ w1 ⟨rfl,hb⟩;have HX:=hI (HX.out.next hb);have HY:=hI (HY.out.next hb);clear hb;have a8:=HX.out.at_ 8 (v:=.slice a.o.A a.o.z.size a.o.c) (by rw [HCA.out];rfl);have b8:=HY.out.at_ 8 (v:=.slice b.o.A b.o.z.size b.o.c) (by rw [HCB.out];rfl);have a9:=HX.out.at_ 9 (v:=.slice a.k.A a.k.z.size a.k.c) (by rw [HCA.out];rfl);have b9:=HY.out.at_ 9 (v:=.slice b.k.A b.k.z.size b.k.c) (by rw [HCB.out];rfl);have a10:=HX.out.at_ 10 (v:=.slice a.m.A a.m.z.size a.m.c) (by rw [HCA.out];rfl);have b10:=HY.out.at_ 10 (v:=.slice b.m.A b.m.z.size b.m.c) (by rw [HCB.out];rfl);have a11:=HX.out.at_ 11 (v:=.slice a.fr.A a.fr.z.size a.fr.c) (by rw [HCA.out];rfl);have b11:=HY.out.at_ 11 (v:=.slice b.fr.A b.fr.z.size b.fr.c) (by rw [HCB.out];rfl);have a12:=HX.out.at_ 12 (v:=.slice a.d.A a.d.z.size a.d.c) (by rw [HCA.out];rfl);have b12:=HY.out.at_ 12 (v:=.slice b.d.A b.d.z.size b.d.c) (by rw [HCB.out];rfl))
    | (go_at_call 103;refine (H2.out _ HX.out.b).mono ?_;rintro _ w2 ⟨rfl,hb⟩;have HX:=hI (HX.out.next hb);have HY:=hI (HY.out.next hb);clear hb;have a9:=HX.out.at_ 9 (v:=.slice a.k.A a.k.z.size a.k.c) (by rw [HCA.out];rfl);have b9:=HY.out.at_ 9 (v:=.slice b.k.A b.k.z.size b.k.c) (by rw [HCB.out];rfl);have a10:=HX.out.at_ 10 (v:=.slice a.m.A a.m.z.size a.m.c) (by rw [HCA.out];rfl);have b10:=HY.out.at_ 10 (v:=.slice b.m.A b.m.z.size b.m.c) (by rw [HCB.out];rfl);have a11:=HX.out.at_ 11 (v:=.slice a.fr.A a.fr.z.size a.fr.c) (by rw [HCA.out];rfl);have b11:=HY.out.at_ 11 (v:=.slice b.fr.A b.fr.z.size b.fr.c) (by rw [HCB.out];rfl);have a12:=HX.out.at_ 12 (v:=.slice a.d.A a.d.z.size a.d.c) (by rw [HCA.out];rfl);have b12:=HY.out.at_ 12 (v:=.slice b.d.A b.d.z.size b.d.c) (by rw [HCB.out];rfl)))
   go_ret
   exact ⟨qag (by rw [HV.out];simp),HX.out.b⟩
  cases c3
  ·go_wp2_with (first
    | (go_at_call 102;refine (H1.out _ HX.out.b).mono ?_;rintro _ w1 ⟨rfl,hb⟩;have HX:=hI (HX.out.next hb);have HY:=hI (HY.out.next hb);clear hb;have a8:=HX.out.at_ 8 (v:=.slice a.o.A a.o.z.size a.o.c) (by rw [HCA.out];rfl);have b8:=HY.out.at_ 8 (v:=.slice b.o.A b.o.z.size b.o.c) (by rw [HCB.out];rfl);have a9:=HX.out.at_ 9 (v:=.slice a.k.A a.k.z.size a.k.c) (by rw [HCA.out];rfl);have b9:=HY.out.at_ 9 (v:=.slice b.k.A b.k.z.size b.k.c) (by rw [HCB.out];rfl);have a10:=HX.out.at_ 10 (v:=.slice a.m.A a.m.z.size a.m.c) (by rw [HCA.out];rfl);have b10:=HY.out.at_ 10 (v:=.slice b.m.A b.m.z.size b.m.c) (by rw [HCB.out];rfl);have a11:=HX.out.at_ 11 (v:=.slice a.fr.A a.fr.z.size a.fr.c) (by rw [HCA.out];rfl);have b11:=HY.out.at_ 11 (v:=.slice b.fr.A b.fr.z.size b.fr.c) (by rw [HCB.out];rfl);have a12:=HX.out.at_ 12 (v:=.slice a.d.A a.d.z.size a.d.c) (by rw [HCA.out];rfl);have b12:=HY.out.at_ 12 (v:=.slice b.d.A b.d.z.size b.d.c) (by rw [HCB.out];rfl))
    | (go_at_call 103;refine (H2.out _ HX.out.b).mono ?_;rintro _ w2 ⟨rfl,hb⟩;have HX:=hI (HX.out.next hb);have HY:=hI (HY.out.next hb);clear hb;have a9:=HX.out.at_ 9 (v:=.slice a.k.A a.k.z.size a.k.c) (by rw [HCA.out];rfl);have b9:=HY.out.at_ 9 (v:=.slice b.k.A b.k.z.size b.k.c) (by rw [HCB.out];rfl);have a10:=HX.out.at_ 10 (v:=.slice a.m.A a.m.z.size a.m.c) (by rw [HCA.out];rfl);have b10:=HY.out.at_ 10 (v:=.slice b.m.A b.m.z.size b.m.c) (by rw [HCB.out];rfl);have a11:=HX.out.at_ 11 (v:=.slice a.fr.A a.fr.z.size a.fr.c) (by rw [HCA.out];rfl);have b11:=HY.out.at_ 11 (v:=.slice b.fr.A b.fr.z.size b.fr.c) (by rw [HCB.out];rfl);have a12:=HX.out.at_ 12 (v:=.slice a.d.A a.d.z.size a.d.c) (by rw [HCA.out];rfl);have b12:=HY.out.at_ 12 (v:=.slice b.d.A b.d.z.size b.d.c) (by rw [HCB.out];rfl))
    | (go_at_call 104;refine (H3.out _ HX.out.b).mono ?_;rintro _ w3 ⟨rfl,hb⟩;have HX:=hI (HX.out.next hb);have HY:=hI (HY.out.next hb);clear hb;have a10:=HX.out.at_ 10 (v:=.slice a.m.A a.m.z.size a.m.c) (by rw [HCA.out];rfl);have b10:=HY.out.at_ 10 (v:=.slice b.m.A b.m.z.size b.m.c) (by rw [HCB.out];rfl);have a11:=HX.out.at_ 11 (v:=.slice a.fr.A a.fr.z.size a.fr.c) (by rw [HCA.out];rfl);have b11:=HY.out.at_ 11 (v:=.slice b.fr.A b.fr.z.size b.fr.c) (by rw [HCB.out];rfl);have a12:=HX.out.at_ 12 (v:=.slice a.d.A a.d.z.size a.d.c) (by rw [HCA.out];rfl);have b12:=HY.out.at_ 12 (v:=.slice b.d.A b.d.z.size b.d.c) (by rw [HCB.out];rfl)))
   go_ret
   exact ⟨qag (by rw [HV.out];simp),HX.out.b⟩
  cases c4
  ·go_wp2_with (first
    | (go_at_call 102;refine (H1.out _ HX.out.b).mono ?_;rintro _ w1 ⟨rfl,hb⟩;have HX:=hI (HX.out.next hb);have HY:=hI (HY.out.next hb);clear hb;have a8:=HX.out.at_ 8 (v:=.slice a.o.A a.o.z.size a.o.c) (by rw [HCA.out];rfl);have b8:=HY.out.at_ 8 (v:=.slice b.o.A b.o.z.size b.o.c) (by rw [HCB.out];rfl);have a9:=HX.out.at_ 9 (v:=.slice a.k.A a.k.z.size a.k.c) (by rw [HCA.out];rfl);have b9:=HY.out.at_ 9 (v:=.slice b.k.A b.k.z.size b.k.c) (by rw [HCB.out];rfl);have a10:=HX.out.at_ 10 (v:=.slice a.m.A a.m.z.size a.m.c) (by rw [HCA.out];rfl);have b10:=HY.out.at_ 10 (v:=.slice b.m.A b.m.z.size b.m.c) (by rw [HCB.out];rfl);have a11:=HX.out.at_ 11 (v:=.slice a.fr.A a.fr.z.size a.fr.c) (by rw [HCA.out];rfl);have b11:=HY.out.at_ 11 (v:=.slice b.fr.A b.fr.z.size b.fr.c) (by rw [HCB.out];rfl);have a12:=HX.out.at_ 12 (v:=.slice a.d.A a.d.z.size a.d.c) (by rw [HCA.out];rfl);have b12:=HY.out.at_ 12 (v:=.slice b.d.A b.d.z.size b.d.c) (by rw [HCB.out];rfl))
    | (go_at_call 103;refine (H2.out _ HX.out.b).mono ?_;rintro _ w2 ⟨rfl,hb⟩;have HX:=hI (HX.out.next hb);have HY:=hI (HY.out.next hb);clear hb;have a9:=HX.out.at_ 9 (v:=.slice a.k.A a.k.z.size a.k.c) (by rw [HCA.out];rfl);have b9:=HY.out.at_ 9 (v:=.slice b.k.A b.k.z.size b.k.c) (by rw [HCB.out];rfl);have a10:=HX.out.at_ 10 (v:=.slice a.m.A a.m.z.size a.m.c) (by rw [HCA.out];rfl);have b10:=HY.out.at_ 10 (v:=.slice b.m.A b.m.z.size b.m.c) (by rw [HCB.out];rfl);have a11:=HX.out.at_ 11 (v:=.slice a.fr.A a.fr.z.size a.fr.c) (by rw [HCA.out];rfl);have b11:=HY.out.at_ 11 (v:=.slice b.fr.A b.fr.z.size b.fr.c) (by rw [HCB.out];rfl);have a12:=HX.out.at_ 12 (v:=.slice a.d.A a.d.z.size a.d.c) (by rw [HCA.out];rfl);have b12:=HY.out.at_ 12 (v:=.slice b.d.A b.d.z.size b.d.c) (by rw [HCB.out];rfl))
    | (go_at_call 104;refine (H3.out _ HX.out.b).mono ?_;rintro _ w3 ⟨rfl,hb⟩;have HX:=hI (HX.out.next hb);have HY:=hI (HY.out.next hb);clear hb;have a10:=HX.out.at_ 10 (v:=.slice a.m.A a.m.z.size a.m.c) (by rw [HCA.out];rfl);have b10:=HY.out.at_ 10 (v:=.slice b.m.A b.m.z.size b.m.c) (by rw [HCB.out];rfl);have a11:=HX.out.at_ 11 (v:=.slice a.fr.A a.fr.z.size a.fr.c) (by rw [HCA.out];rfl);have b11:=HY.out.at_ 11 (v:=.slice b.fr.A b.fr.z.size b.fr.c) (by rw [HCB.out];rfl);have a12:=HX.out.at_ 12 (v:=.slice a.d.A a.d.z.size a.d.c) (by rw [HCA.out];rfl);have b12:=HY.out.at_ 12 (v:=.slice b.d.A b.d.z.size b.d.c) (by rw [HCB.out];rfl))
    | (go_at_call 105;refine (H4.out _ HX.out.b).mono ?_;rintro _ w4 ⟨rfl,hb⟩;have HX:=hI (HX.out.next hb);have HY:=hI (HY.out.next hb);clear hb;have a11:=HX.out.at_ 11 (v:=.slice a.fr.A a.fr.z.size a.fr.c) (by rw [HCA.out];rfl);have b11:=HY.out.at_ 11 (v:=.slice b.fr.A b.fr.z.size b.fr.c) (by rw [HCB.out];rfl);have a12:=HX.out.at_ 12 (v:=.slice a.d.A a.d.z.size a.d.c) (by rw [HCA.out];rfl);have b12:=HY.out.at_ 12 (v:=.slice b.d.A b.d.z.size b.d.c) (by rw [HCB.out];rfl)))
   go_ret
   exact ⟨qag (by rw [HV.out];simp),HX.out.b⟩
  cases c5
  ·go_wp2_with (first
    | (go_at_call 102;refine (H1.out _ HX.out.b).mono ?_;rintro _ w1 ⟨rfl,hb⟩;have HX:=hI (HX.out.next hb);have HY:=hI (HY.out.next hb);clear hb;have a8:=HX.out.at_ 8 (v:=.slice a.o.A a.o.z.size a.o.c) (by rw [HCA.out];rfl);have b8:=HY.out.at_ 8 (v:=.slice b.o.A b.o.z.size b.o.c) (by rw [HCB.out];rfl);have a9:=HX.out.at_ 9 (v:=.slice a.k.A a.k.z.size a.k.c) (by rw [HCA.out];rfl);have b9:=HY.out.at_ 9 (v:=.slice b.k.A b.k.z.size b.k.c) (by rw [HCB.out];rfl);have a10:=HX.out.at_ 10 (v:=.slice a.m.A a.m.z.size a.m.c) (by rw [HCA.out];rfl);have b10:=HY.out.at_ 10 (v:=.slice b.m.A b.m.z.size b.m.c) (by rw [HCB.out];rfl);have a11:=HX.out.at_ 11 (v:=.slice a.fr.A a.fr.z.size a.fr.c) (by rw [HCA.out];rfl);have b11:=HY.out.at_ 11 (v:=.slice b.fr.A b.fr.z.size b.fr.c) (by rw [HCB.out];rfl);have a12:=HX.out.at_ 12 (v:=.slice a.d.A a.d.z.size a.d.c) (by rw [HCA.out];rfl);have b12:=HY.out.at_ 12 (v:=.slice b.d.A b.d.z.size b.d.c) (by rw [HCB.out];rfl))
    | (go_at_call 103;refine (H2.out _ HX.out.b).mono ?_;rintro _ w2 ⟨rfl,hb⟩;have HX:=hI (HX.out.next hb);have HY:=hI (HY.out.next hb);clear hb;have a9:=HX.out.at_ 9 (v:=.slice a.k.A a.k.z.size a.k.c) (by rw [HCA.out];rfl);have b9:=HY.out.at_ 9 (v:=.slice b.k.A b.k.z.size b.k.c) (by rw [HCB.out];rfl);have a10:=HX.out.at_ 10 (v:=.slice a.m.A a.m.z.size a.m.c) (by rw [HCA.out];rfl);have b10:=HY.out.at_ 10 (v:=.slice b.m.A b.m.z.size b.m.c) (by rw [HCB.out];rfl);have a11:=HX.out.at_ 11 (v:=.slice a.fr.A a.fr.z.size a.fr.c) (by rw [HCA.out];rfl);have b11:=HY.out.at_ 11 (v:=.slice b.fr.A b.fr.z.size b.fr.c) (by rw [HCB.out];rfl);have a12:=HX.out.at_ 12 (v:=.slice a.d.A a.d.z.size a.d.c) (by rw [HCA.out];rfl);have b12:=HY.out.at_ 12 (v:=.slice b.d.A b.d.z.size b.d.c) (by rw [HCB.out];rfl))
    | (go_at_call 104;refine (H3.out _ HX.out.b).mono ?_;rintro _ w3 ⟨rfl,hb⟩;have HX:=hI (HX.out.next hb);have HY:=hI (HY.out.next hb);clear hb;have a10:=HX.out.at_ 10 (v:=.slice a.m.A a.m.z.size a.m.c) (by rw [HCA.out];rfl);have b10:=HY.out.at_ 10 (v:=.slice b.m.A b.m.z.size b.m.c) (by rw [HCB.out];rfl);have a11:=HX.out.at_ 11 (v:=.slice a.fr.A a.fr.z.size a.fr.c) (by rw [HCA.out];rfl);have b11:=HY.out.at_ 11 (v:=.slice b.fr.A b.fr.z.size b.fr.c) (by rw [HCB.out];rfl);have a12:=HX.out.at_ 12 (v:=.slice a.d.A a.d.z.size a.d.c) (by rw [HCA.out];rfl);have b12:=HY.out.at_ 12 (v:=.slice b.d.A b.d.z.size b.d.c) (by rw [HCB.out];rfl))
    | (go_at_call 105;refine (H4.out _ HX.out.b).mono ?_;rintro _ w4 ⟨rfl,hb⟩;have HX:=hI (HX.out.next hb);have HY:=hI (HY.out.next hb);clear hb;have a11:=HX.out.at_ 11 (v:=.slice a.fr.A a.fr.z.size a.fr.c) (by rw [HCA.out];rfl);have b11:=HY.out.at_ 11 (v:=.slice b.fr.A b.fr.z.size b.fr.c) (by rw [HCB.out];rfl);have a12:=HX.out.at_ 12 (v:=.slice a.d.A a.d.z.size a.d.c) (by rw [HCA.out];rfl);have b12:=HY.out.at_ 12 (v:=.slice b.d.A b.d.z.size b.d.c) (by rw [HCB.out];rfl))
    | (go_at_call 106;refine (H5.out _ HX.out.b).mono ?_;rintro _ w5 ⟨rfl,hb⟩;have HX:=hI (HX.out.next hb);have HY:=hI (HY.out.next hb);clear hb;have a12:=HX.out.at_ 12 (v:=.slice a.d.A a.d.z.size a.d.c) (by rw [HCA.out];rfl);have b12:=HY.out.at_ 12 (v:=.slice b.d.A b.d.z.size b.d.c) (by rw [HCB.out];rfl)))
   go_ret
   exact ⟨qag (by rw [HV.out];simp),HX.out.b⟩
  cases c6
  ·go_wp2_with (first
    | (go_at_call 102;refine (H1.out _ HX.out.b).mono ?_;rintro _ w1 ⟨rfl,hb⟩;have HX:=hI (HX.out.next hb);have HY:=hI (HY.out.next hb);clear hb;have a8:=HX.out.at_ 8 (v:=.slice a.o.A a.o.z.size a.o.c) (by rw [HCA.out];rfl);have b8:=HY.out.at_ 8 (v:=.slice b.o.A b.o.z.size b.o.c) (by rw [HCB.out];rfl);have a9:=HX.out.at_ 9 (v:=.slice a.k.A a.k.z.size a.k.c) (by rw [HCA.out];rfl);have b9:=HY.out.at_ 9 (v:=.slice b.k.A b.k.z.size b.k.c) (by rw [HCB.out];rfl);have a10:=HX.out.at_ 10 (v:=.slice a.m.A a.m.z.size a.m.c) (by rw [HCA.out];rfl);have b10:=HY.out.at_ 10 (v:=.slice b.m.A b.m.z.size b.m.c) (by rw [HCB.out];rfl);have a11:=HX.out.at_ 11 (v:=.slice a.fr.A a.fr.z.size a.fr.c) (by rw [HCA.out];rfl);have b11:=HY.out.at_ 11 (v:=.slice b.fr.A b.fr.z.size b.fr.c) (by rw [HCB.out];rfl);have a12:=HX.out.at_ 12 (v:=.slice a.d.A a.d.z.size a.d.c) (by rw [HCA.out];rfl);have b12:=HY.out.at_ 12 (v:=.slice b.d.A b.d.z.size b.d.c) (by rw [HCB.out];rfl))
    | (go_at_call 103;refine (H2.out _ HX.out.b).mono ?_;rintro _ w2 ⟨rfl,hb⟩;have HX:=hI (HX.out.next hb);have HY:=hI (HY.out.next hb);clear hb;have a9:=HX.out.at_ 9 (v:=.slice a.k.A a.k.z.size a.k.c) (by rw [HCA.out];rfl);have b9:=HY.out.at_ 9 (v:=.slice b.k.A b.k.z.size b.k.c) (by rw [HCB.out];rfl);have a10:=HX.out.at_ 10 (v:=.slice a.m.A a.m.z.size a.m.c) (by rw [HCA.out];rfl);have b10:=HY.out.at_ 10 (v:=.slice b.m.A b.m.z.size b.m.c) (by rw [HCB.out];rfl);have a11:=HX.out.at_ 11 (v:=.slice a.fr.A a.fr.z.size a.fr.c) (by rw [HCA.out];rfl);have b11:=HY.out.at_ 11 (v:=.slice b.fr.A b.fr.z.size b.fr.c) (by rw [HCB.out];rfl);have a12:=HX.out.at_ 12 (v:=.slice a.d.A a.d.z.size a.d.c) (by rw [HCA.out];rfl);have b12:=HY.out.at_ 12 (v:=.slice b.d.A b.d.z.size b.d.c) (by rw [HCB.out];rfl))
    | (go_at_call 104;refine (H3.out _ HX.out.b).mono ?_;rintro _ w3 ⟨rfl,hb⟩;have HX:=hI (HX.out.next hb);have HY:=hI (HY.out.next hb);clear hb;have a10:=HX.out.at_ 10 (v:=.slice a.m.A a.m.z.size a.m.c) (by rw [HCA.out];rfl);have b10:=HY.out.at_ 10 (v:=.slice b.m.A b.m.z.size b.m.c) (by rw [HCB.out];rfl);have a11:=HX.out.at_ 11 (v:=.slice a.fr.A a.fr.z.size a.fr.c) (by rw [HCA.out];rfl);have b11:=HY.out.at_ 11 (v:=.slice b.fr.A b.fr.z.size b.fr.c) (by rw [HCB.out];rfl);have a12:=HX.out.at_ 12 (v:=.slice a.d.A a.d.z.size a.d.c) (by rw [HCA.out];rfl);have b12:=HY.out.at_ 12 (v:=.slice b.d.A b.d.z.size b.d.c) (by rw [HCB.out];rfl))
    | (go_at_call 105;refine (H4.out _ HX.out.b).mono ?_;rintro _ w4 ⟨rfl,hb⟩;have HX:=hI (HX.out.next hb);have HY:=hI (HY.out.next hb);clear hb;have a11:=HX.out.at_ 11 (v:=.slice a.fr.A a.fr.z.size a.fr.c) (by rw [HCA.out];rfl);have b11:=HY.out.at_ 11 (v:=.slice b.fr.A b.fr.z.size b.fr.c) (by rw [HCB.out];rfl);have a12:=HX.out.at_ 12 (v:=.slice a.d.A a.d.z.size a.d.c) (by rw [HCA.out];rfl);have b12:=HY.out.at_ 12 (v:=.slice b.d.A b.d.z.size b.d.c) (by rw [HCB.out];rfl))
    | (go_at_call 106;refine (H5.out _ HX.out.b).mono ?_;rintro _ w5 ⟨rfl,hb⟩;have HX:=hI (HX.out.next hb);have HY:=hI (HY.out.next hb);clear hb;have a12:=HX.out.at_ 12 (v:=.slice a.d.A a.d.z.size a.d.c) (by rw [HCA.out];rfl);have b12:=HY.out.at_ 12 (v:=.slice b.d.A b.d.z.size b.d.c) (by rw [HCB.out];rfl))
    | (go_at_call 107;refine (H6.out _ HX.out.b).mono ?_;rintro _ w6 ⟨rfl,hb⟩;have HX:=hI (HX.out.next hb);have HY:=hI (HY.out.next hb);clear hb))
   go_ret
   exact ⟨qag (by rw [HV.out];simp),HX.out.b⟩
  go_wp2_with (first
   | (go_at_call 102;refine (H1.out _ HX.out.b).mono ?_;rintro _ w1 ⟨rfl,hb⟩;have HX:=hI (HX.out.next hb);have HY:=hI (HY.out.next hb);clear hb;have a8:=HX.out.at_ 8 (v:=.slice a.o.A a.o.z.size a.o.c) (by rw [HCA.out];rfl);have b8:=HY.out.at_ 8 (v:=.slice b.o.A b.o.z.size b.o.c) (by rw [HCB.out];rfl);have a9:=HX.out.at_ 9 (v:=.slice a.k.A a.k.z.size a.k.c) (by rw [HCA.out];rfl);have b9:=HY.out.at_ 9 (v:=.slice b.k.A b.k.z.size b.k.c) (by rw [HCB.out];rfl);have a10:=HX.out.at_ 10 (v:=.slice a.m.A a.m.z.size a.m.c) (by rw [HCA.out];rfl);have b10:=HY.out.at_ 10 (v:=.slice b.m.A b.m.z.size b.m.c) (by rw [HCB.out];rfl);have a11:=HX.out.at_ 11 (v:=.slice a.fr.A a.fr.z.size a.fr.c) (by rw [HCA.out];rfl);have b11:=HY.out.at_ 11 (v:=.slice b.fr.A b.fr.z.size b.fr.c) (by rw [HCB.out];rfl);have a12:=HX.out.at_ 12 (v:=.slice a.d.A a.d.z.size a.d.c) (by rw [HCA.out];rfl);have b12:=HY.out.at_ 12 (v:=.slice b.d.A b.d.z.size b.d.c) (by rw [HCB.out];rfl))
   | (go_at_call 103;refine (H2.out _ HX.out.b).mono ?_;rintro _ w2 ⟨rfl,hb⟩;have HX:=hI (HX.out.next hb);have HY:=hI (HY.out.next hb);clear hb;have a9:=HX.out.at_ 9 (v:=.slice a.k.A a.k.z.size a.k.c) (by rw [HCA.out];rfl);have b9:=HY.out.at_ 9 (v:=.slice b.k.A b.k.z.size b.k.c) (by rw [HCB.out];rfl);have a10:=HX.out.at_ 10 (v:=.slice a.m.A a.m.z.size a.m.c) (by rw [HCA.out];rfl);have b10:=HY.out.at_ 10 (v:=.slice b.m.A b.m.z.size b.m.c) (by rw [HCB.out];rfl);have a11:=HX.out.at_ 11 (v:=.slice a.fr.A a.fr.z.size a.fr.c) (by rw [HCA.out];rfl);have b11:=HY.out.at_ 11 (v:=.slice b.fr.A b.fr.z.size b.fr.c) (by rw [HCB.out];rfl);have a12:=HX.out.at_ 12 (v:=.slice a.d.A a.d.z.size a.d.c) (by rw [HCA.out];rfl);have b12:=HY.out.at_ 12 (v:=.slice b.d.A b.d.z.size b.d.c) (by rw [HCB.out];rfl))
   | (go_at_call 104;refine (H3.out _ HX.out.b).mono ?_;rintro _ w3 ⟨rfl,hb⟩;have HX:=hI (HX.out.next hb);have HY:=hI (HY.out.next hb);clear hb;have a10:=HX.out.at_ 10 (v:=.slice a.m.A a.m.z.size a.m.c) (by rw [HCA.out];rfl);have b10:=HY.out.at_ 10 (v:=.slice b.m.A b.m.z.size b.m.c) (by rw [HCB.out];rfl);have a11:=HX.out.at_ 11 (v:=.slice a.fr.A a.fr.z.size a.fr.c) (by rw [HCA.out];rfl);have b11:=HY.out.at_ 11 (v:=.slice b.fr.A b.fr.z.size b.fr.c) (by rw [HCB.out];rfl);have a12:=HX.out.at_ 12 (v:=.slice a.d.A a.d.z.size a.d.c) (by rw [HCA.out];rfl);have b12:=HY.out.at_ 12 (v:=.slice b.d.A b.d.z.size b.d.c) (by rw [HCB.out];rfl))
   | (go_at_call 105;refine (H4.out _ HX.out.b).mono ?_;rintro _ w4 ⟨rfl,hb⟩;have HX:=hI (HX.out.next hb);have HY:=hI (HY.out.next hb);clear hb;have a11:=HX.out.at_ 11 (v:=.slice a.fr.A a.fr.z.size a.fr.c) (by rw [HCA.out];rfl);have b11:=HY.out.at_ 11 (v:=.slice b.fr.A b.fr.z.size b.fr.c) (by rw [HCB.out];rfl);have a12:=HX.out.at_ 12 (v:=.slice a.d.A a.d.z.size a.d.c) (by rw [HCA.out];rfl);have b12:=HY.out.at_ 12 (v:=.slice b.d.A b.d.z.size b.d.c) (by rw [HCB.out];rfl))
   | (go_at_call 106;refine (H5.out _ HX.out.b).mono ?_;rintro _ w5 ⟨rfl,hb⟩;have HX:=hI (HX.out.next hb);have HY:=hI (HY.out.next hb);clear hb;have a12:=HX.out.at_ 12 (v:=.slice a.d.A a.d.z.size a.d.c) (by rw [HCA.out];rfl);have b12:=HY.out.at_ 12 (v:=.slice b.d.A b.d.z.size b.d.c) (by rw [HCB.out];rfl))
   | (go_at_call 107;refine (H6.out _ HX.out.b).mono ?_;rintro _ w6 ⟨rfl,hb⟩;have HX:=hI (HX.out.next hb);have HY:=hI (HY.out.next hb);clear hb))
  go_ret
  exact ⟨qag (by rw [HV.out];simp),HX.out.b⟩
 ·have HV:Hid (x=false):=by show _=_;rw [←hx,decide_eq_false hh,Bool.false_and]
  have HH:=hI hh
  have hne:=fun W=>neA_M (a.lt,a.lid) (b.lt,b.lid) W
  have heq:=fun W=>eqA_M (a.lt,a.lid) (b.lt,b.lid) W
  simp only [Prod.mk.injEq] at hne heq
  clear hx hh
  go_enter Tryz.func50,Tryz.ntmps50
  rw [←hca,←hcb]
  clear hca hcb
  have HX:=hI (BoxG.fst w ca cb 35 35)
  have HY:=hI (BoxG.snd w ca cb 35 35)
  have a0:=HX.out.at_ 0 (v:=.int .i64 a.n) (by rw [HCA.out];rfl)
  have b0:=HY.out.at_ 0 (v:=.int .i64 b.n) (by rw [HCB.out];rfl)
  have a1:=HX.out.at_ 1 (v:=.int .i64 a.f) (by rw [HCA.out];rfl)
  have b1:=HY.out.at_ 1 (v:=.int .i64 b.f) (by rw [HCB.out];rfl)
  have a2:=HX.out.at_ 2 (v:=.int .i64 a.self) (by rw [HCA.out];rfl)
  have b2:=HY.out.at_ 2 (v:=.int .i64 b.self) (by rw [HCB.out];rfl)
  have a3:=HX.out.at_ 3 (v:=.int .i64 a.clock) (by rw [HCA.out];rfl)
  have b3:=HY.out.at_ 3 (v:=.int .i64 b.clock) (by rw [HCB.out];rfl)
  have a4:=HX.out.at_ 4 (v:=.int .i64 a.seq) (by rw [HCA.out];rfl)
  have b4:=HY.out.at_ 4 (v:=.int .i64 b.seq) (by rw [HCB.out];rfl)
  have a5:=HX.out.at_ 5 (v:=.int .i64 a.floor) (by rw [HCA.out];rfl)
  have b5:=HY.out.at_ 5 (v:=.int .i64 b.floor) (by rw [HCB.out];rfl)
  have a6:=HX.out.at_ 6 (v:=.int .i64 a.ticks) (by rw [HCA.out];rfl)
  have b6:=HY.out.at_ 6 (v:=.int .i64 b.ticks) (by rw [HCB.out];rfl)
  have a13:=HX.out.at_ 13 (v:=.int .i64 a.lt) (by rw [HCA.out];rfl)
  have b13:=HY.out.at_ 13 (v:=.int .i64 b.lt) (by rw [HCB.out];rfl)
  have a14:=HX.out.at_ 14 (v:=.int .i64 a.lid) (by rw [HCA.out];rfl)
  have b14:=HY.out.at_ 14 (v:=.int .i64 b.lid) (by rw [HCB.out];rfl)
  have a15:=HX.out.at_ 15 (v:=.int .i64 a.count) (by rw [HCA.out];rfl)
  have b15:=HY.out.at_ 15 (v:=.int .i64 b.count) (by rw [HCB.out];rfl)
  go_wp2
  all_goals first
   | (go_ret
      exact ⟨qag HV.out.symm,HX.out.b⟩)
   | (exfalso
      have hh:=HH.out
      clear HH HX HY HCA HCB hne heq H1 H2 H3 H4 H5 H6 a0 b0 a1 b1 a2 b2 a3 b3 a4 b4 a5 b5 a6 b6 a13 b13 a14 b14 a15 b15
      simp only [qmn] at hh
      grind)
end Go.Proofs.YtnmojicfmcbgmaaGreatDoor
