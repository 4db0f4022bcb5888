/- Texts that the law leans on. -/
import Derived.Test.YtjkecckndfcbjaaGreatDoorPPlyB
import Derived.Test.YtjkecckndfcbjaaGreatDoorPLftA
import Derived.Test.YtjkecckndfcbjaaGreatDoorPRlP
import Derived.BigGuardPart
import Derived.Test.YtjkecckndfcbjaaGreatDoorPTelB
namespace Go.Proofs.YtjkecckndfcbjaaGreatDoor
open Go.RowKit
set_option maxRecDepth 100000
theorem qtw (c:CH) (w:World):Calls Tryz.prog 84 #[chV c] w fun e w'=>e=.returned (chV c)∧Below w.heap.size w w':=by
 unfold chV
 go_enter Tryz.func84,Tryz.ntmps84
 go_wp2
 refine bodyPost_ret (v:=.agg #[.int .i64 c.keep,.string c.trash,.bool c.reset]) (by simp [results,Tryz.results84,go_sem]) rfl ⟨rfl,qab (bel1 w _) _⟩
theorem qmb {W:World} {b:Nat} {t:TypeId} {v0 v1 v2 v3 v4 v5 v6 v7 v8 v9 x0 x1 x2 x3 x4 x5 x6 x7 x8 x9:Value} (h:W.heap[b]?=some (.cells #[x0,x1,x2,x3,x4,x5,x6,x7,x8,x9] t (0,0))):((((((((((W.setCell ⟨b,0,none⟩ v0).setCell ⟨b,1,none⟩ v1).setCell ⟨b,2,none⟩ v2).setCell ⟨b,3,none⟩ v3).setCell ⟨b,4,none⟩ v4).setCell ⟨b,5,none⟩ v5).setCell ⟨b,6,none⟩ v6).setCell ⟨b,7,none⟩ v7).setCell ⟨b,8,none⟩ v8).setCell ⟨b,9,none⟩ v9).heap[b]?=some (.cells #[v0,v1,v2,v3,v4,v5,v6,v7,v8,v9] t (0,0)):=by
 have h1:=qae (qae (qae (qae (qae (qae (qae (qae (qae (qae h 0 v0) 1 v1) 2 v2) 3 v3) 4 v4) 5 v5) 6 v6) 7 v7) 8 v8) 9 v9
 rw [h1]
 simp only [List.setIfInBounds_toArray,List.set_cons_succ,List.set_cons_zero]
theorem qct {W:World} {g:Nat} {t:TypeId} {cs:Array Value} (h:W.heap[g]?=some (.cells cs t (0,0))):W.frozen? ⟨g,0,none⟩=false∧W.frozen? ⟨g,1,none⟩=false∧W.frozen? ⟨g,2,none⟩=false∧W.frozen? ⟨g,3,none⟩=false∧W.frozen? ⟨g,4,none⟩=false∧W.frozen? ⟨g,5,none⟩=false∧W.frozen? ⟨g,6,none⟩=false∧W.frozen? ⟨g,7,none⟩=false∧W.frozen? ⟨g,8,none⟩=false∧W.frozen? ⟨g,9,none⟩=false:=⟨Lib.frozen_of_heap h 0,Lib.frozen_of_heap h 1,Lib.frozen_of_heap h 2,Lib.frozen_of_heap h 3,Lib.frozen_of_heap h 4,Lib.frozen_of_heap h 5,Lib.frozen_of_heap h 6,Lib.frozen_of_heap h 7,Lib.frozen_of_heap h 8,Lib.frozen_of_heap h 9⟩
theorem qhk (w:World) (o0 o1 o2:Obj):(((w.alloc o0).alloc o1).alloc o2).heap[w.heap.size]?=some o0∧(((w.alloc o0).alloc o1).alloc o2).heap[w.heap.size + 1]?=some o1∧(((w.alloc o0).alloc o1).alloc o2).heap[w.heap.size + 2]?=some o2:=by
 refine ⟨(qde w o0 o1 o2).1,?_,(qde w o0 o1 o2).2⟩
 exact (Below.heap_alloc _ _ _ (by simp)).trans (qbi w o0 o1).2
set_option maxHeartbeats 4000000 in
theorem rDo_any (d:DK) (x:AC) (w:World) (hok:d.ok) (ho:d.ops≤999999990) (hz:qea x) :
 Calls Tryz.prog 48 #[rdV (rdOf d),.agg (qit x).toArray] w fun e w'=>e=.returned (.tuple #[rdV (rdOf (doQ d x).1),.string (doQ d x).2.1,.int .i64 ((doQ d x).2.2:Int)])∧Below w.heap.size w w':=by
 obtain ⟨lk,le,ltx,lok,n,ot,⟨ka,ta,ra⟩,⟨kb,tb,rb⟩⟩:=x
 obtain ⟨z1,z2,z3⟩:=hz
 dsimp only at z1 z2 z3
 have hrk:=qen hok (show d.ops≤1000000000 by omega)
 obtain ⟨r0,hr0⟩:∃ r,rdOf d=r:=⟨_,rfl⟩
 have HR0:=hI hr0
 unfold qit
 dsimp only
 by_cases h0:lok=0
 ·subst h0
  have HQ:Hid (doQ d ⟨lk,le,ltx,0,n,ot,⟨ka,ta,ra⟩,⟨kb,tb,rb⟩⟩=((appQ d n ot).1,⟨#[]⟩,(appQ d n ot).2)):=by show _=_;unfold doQ;simp only [reduceIte]
  rw [HQ.out]
  have HC:=hI (fun (W:World)=>qhe (rdOf d) n ot (by omega) W hrk)
  obtain ⟨X,hX⟩:∃ X,appQ d n ot=X:=⟨_,rfl⟩
  rw [qnv hok,hX,hr0] at HC
  rw [hX,hr0]
  obtain ⟨X,c1⟩:=X
  obtain ⟨r1,hr1⟩:∃ r,rdOf X=r:=⟨_,rfl⟩
  dsimp only at HC ⊢
  unfold qet at HC
  dsimp only at HC
  rw [hr1] at HC ⊢
  clear hX hr1 hr0 HR0 HQ hok ho hrk z1 z2 z3
  obtain ⟨a,b,c,e,h,k,R,O,M,D⟩:=r0
  obtain ⟨au,bu,cu,eu,hu,ku,Ru,Ou,Mu,Du⟩:=r1
  unfold rdV qbh at HC
  unfold rdV qbh
  dsimp only at HC ⊢
  go_enter Tryz.func48,Tryz.ntmps48
  go_wp2_with fail
  refine (HC.out _).mono ?_
  rintro e w1 ⟨rfl,hb1⟩
  obtain ⟨q0,q1,q2⟩:=qhk w (.cells #[.string a,.string b,.string c,.string e,.bool h,.bool k,.int .i64 (R:Int),.int .i64 (O:Int),.int .i64 (M:Int),.bool D] 33) (.cells #[.int .i64 0,.int .i64 n,.string ot,.int .i64 ka,.string ta,.bool ra,.int .i64 kb,.string tb,.bool rb] 60) (.cells #[.string ⟨#[]⟩,.string ⟨#[]⟩,.string ⟨#[]⟩,.string ⟨#[]⟩,.bool false,.bool false,.int .i64 0,.int .i64 0,.int .i64 0,.bool false] 33)
  have hl0:=qaa q0
  have hl2:=qaa q2
  have HX1:Hid (w1.heap[w.heap.size]?=some (.cells #[.string a,.string b,.string c,.string e,.bool h,.bool k,.int .i64 (R:Int),.int .i64 (O:Int),.int .i64 (M:Int),.bool D] 33 (0,0))):=(hb1.block _ hl0).trans q0
  have HY1:Hid (w1.heap[w.heap.size + 2]?=some (.cells #[.string ⟨#[]⟩,.string ⟨#[]⟩,.string ⟨#[]⟩,.string ⟨#[]⟩,.bool false,.bool false,.int .i64 0,.int .i64 0,.int .i64 0,.bool false] 33 (0,0))):=(hb1.block _ hl2).trans q2
  have HB1:Hid (Below w.heap.size w w1):=qad (qab (qab (bel1 w _) _) _) hb1
  clear hb1 HC q0 q1 q2 hl0 hl2
  obtain ⟨p0,p1,p2,p3,p4,p5,p6,p7,p8,p9⟩:=qam HX1.out
  obtain ⟨q0,q1,q2,q3,q4,q5,q6,q7,q8,q9⟩:=qct HX1.out
  go_upto_region 17 with fail
  generalize hw2:((((((((((w1.setCell ⟨w.heap.size,0,none⟩ (.string au)).setCell ⟨w.heap.size,1,none⟩ (.string bu)).setCell ⟨w.heap.size,2,none⟩ (.string cu)).setCell ⟨w.heap.size,3,none⟩ (.string eu)).setCell ⟨w.heap.size,4,none⟩ (.bool hu)).setCell ⟨w.heap.size,5,none⟩ (.bool ku)).setCell ⟨w.heap.size,6,none⟩ (.int .i64 (Ru:Int))).setCell ⟨w.heap.size,7,none⟩ (.int .i64 (Ou:Int))).setCell ⟨w.heap.size,8,none⟩ (.int .i64 (Mu:Int))).setCell ⟨w.heap.size,9,none⟩ (.bool Du))=w2
  have HX2:Hid (w2.heap[w.heap.size]?=some (.cells #[.string au,.string bu,.string cu,.string eu,.bool hu,.bool ku,.int .i64 (Ru:Int),.int .i64 (Ou:Int),.int .i64 (Mu:Int),.bool Du] 33 (0,0))):=by rw [←hw2];exact qmb HX1.out
  have HY2:Hid (w2.heap[w.heap.size + 2]?=some (.cells #[.string ⟨#[]⟩,.string ⟨#[]⟩,.string ⟨#[]⟩,.string ⟨#[]⟩,.bool false,.bool false,.int .i64 0,.int .i64 0,.int .i64 0,.bool false] 33 (0,0))):=by rw [←hw2];exact qfc HY1.out (by omega)
  have HB2:Hid (Below w.heap.size w w2):=by rw [←hw2];exact qeu HB1.out (Nat.le_refl _)
  clear hw2 HX1 HY1 HB1 p0 p1 p2 p3 p4 p5 p6 p7 p8 p9 q0 q1 q2 q3 q4 q5 q6 q7 q8 q9
  obtain ⟨p0,p1,p2,p3,p4,p5,p6,p7,p8,p9⟩:=qam HX2.out
  obtain ⟨y0,y1,y2,y3,y4,y5,y6,y7,y8,y9⟩:=qam HY2.out
  obtain ⟨z0,z1,z2,z3,z4,z5,z6,z7,z8,z9⟩:=qct HY2.out
  go_wp2
  refine bodyPost_ret (v:=.tuple #[.agg #[.string au,.string bu,.string cu,.string eu,.bool hu,.bool ku,.int .i64 (Ru:Int),.int .i64 (Ou:Int),.int .i64 (Mu:Int),.bool Du],.string ⟨#[]⟩,.int .i64 (c1:Int)]) (by simp [results,Tryz.results48,go_sem,y0,y1,y2,y3,y4,y5,y6,y7,y8,y9]) rfl ⟨rfl,qeu HB2.out (Nat.le_add_right _ 2)⟩
 by_cases h1:lok=1
 ·subst h1
  have HQ:Hid (doQ d ⟨lk,le,ltx,1,n,ot,⟨ka,ta,ra⟩,⟨kb,tb,rb⟩⟩=((qca d n).1,⟨#[]⟩,(qca d n).2)):=by show _=_;unfold doQ;simp only [reduceIte,Int.reduceEq]
  rw [HQ.out]
  have HC:=hI (fun (W:World)=>qkr (rdOf d) n W hrk)
  obtain ⟨X,hX⟩:∃ X,qca d n=X:=⟨_,rfl⟩
  rw [qky hok,hX,hr0] at HC
  rw [hX,hr0]
  obtain ⟨X,c1⟩:=X
  obtain ⟨r1,hr1⟩:∃ r,rdOf X=r:=⟨_,rfl⟩
  dsimp only at HC ⊢
  unfold qet at HC
  dsimp only at HC
  rw [hr1] at HC ⊢
  clear hX hr1 hr0 HR0 HQ hok ho hrk z1 z2 z3 h0
  obtain ⟨a,b,c,e,h,k,R,O,M,D⟩:=r0
  obtain ⟨au,bu,cu,eu,hu,ku,Ru,Ou,Mu,Du⟩:=r1
  unfold rdV qbh at HC
  unfold rdV qbh
  dsimp only at HC ⊢
  go_enter Tryz.func48,Tryz.ntmps48
  go_wp2_with fail
  refine (HC.out _).mono ?_
  rintro e w1 ⟨rfl,hb1⟩
  obtain ⟨q0,q1,q2⟩:=qhk w (.cells #[.string a,.string b,.string c,.string e,.bool h,.bool k,.int .i64 (R:Int),.int .i64 (O:Int),.int .i64 (M:Int),.bool D] 33) (.cells #[.int .i64 1,.int .i64 n,.string ot,.int .i64 ka,.string ta,.bool ra,.int .i64 kb,.string tb,.bool rb] 60) (.cells #[.string ⟨#[]⟩,.string ⟨#[]⟩,.string ⟨#[]⟩,.string ⟨#[]⟩,.bool false,.bool false,.int .i64 0,.int .i64 0,.int .i64 0,.bool false] 33)
  have hl0:=qaa q0
  have hl2:=qaa q2
  have HX1:Hid (w1.heap[w.heap.size]?=some (.cells #[.string a,.string b,.string c,.string e,.bool h,.bool k,.int .i64 (R:Int),.int .i64 (O:Int),.int .i64 (M:Int),.bool D] 33 (0,0))):=(hb1.block _ hl0).trans q0
  have HY1:Hid (w1.heap[w.heap.size + 2]?=some (.cells #[.string ⟨#[]⟩,.string ⟨#[]⟩,.string ⟨#[]⟩,.string ⟨#[]⟩,.bool false,.bool false,.int .i64 0,.int .i64 0,.int .i64 0,.bool false] 33 (0,0))):=(hb1.block _ hl2).trans q2
  have HB1:Hid (Below w.heap.size w w1):=qad (qab (qab (bel1 w _) _) _) hb1
  clear hb1 HC q0 q1 q2 hl0 hl2
  obtain ⟨p0,p1,p2,p3,p4,p5,p6,p7,p8,p9⟩:=qam HX1.out
  obtain ⟨q0,q1,q2,q3,q4,q5,q6,q7,q8,q9⟩:=qct HX1.out
  go_upto_region 17 with fail
  generalize hw2:((((((((((w1.setCell ⟨w.heap.size,0,none⟩ (.string au)).setCell ⟨w.heap.size,1,none⟩ (.string bu)).setCell ⟨w.heap.size,2,none⟩ (.string cu)).setCell ⟨w.heap.size,3,none⟩ (.string eu)).setCell ⟨w.heap.size,4,none⟩ (.bool hu)).setCell ⟨w.heap.size,5,none⟩ (.bool ku)).setCell ⟨w.heap.size,6,none⟩ (.int .i64 (Ru:Int))).setCell ⟨w.heap.size,7,none⟩ (.int .i64 (Ou:Int))).setCell ⟨w.heap.size,8,none⟩ (.int .i64 (Mu:Int))).setCell ⟨w.heap.size,9,none⟩ (.bool Du))=w2
  have HX2:Hid (w2.heap[w.heap.size]?=some (.cells #[.string au,.string bu,.string cu,.string eu,.bool hu,.bool ku,.int .i64 (Ru:Int),.int .i64 (Ou:Int),.int .i64 (Mu:Int),.bool Du] 33 (0,0))):=by rw [←hw2];exact qmb HX1.out
  have HY2:Hid (w2.heap[w.heap.size + 2]?=some (.cells #[.string ⟨#[]⟩,.string ⟨#[]⟩,.string ⟨#[]⟩,.string ⟨#[]⟩,.bool false,.bool false,.int .i64 0,.int .i64 0,.int .i64 0,.bool false] 33 (0,0))):=by rw [←hw2];exact qfc HY1.out (by omega)
  have HB2:Hid (Below w.heap.size w w2):=by rw [←hw2];exact qeu HB1.out (Nat.le_refl _)
  clear hw2 HX1 HY1 HB1 p0 p1 p2 p3 p4 p5 p6 p7 p8 p9 q0 q1 q2 q3 q4 q5 q6 q7 q8 q9
  obtain ⟨p0,p1,p2,p3,p4,p5,p6,p7,p8,p9⟩:=qam HX2.out
  obtain ⟨y0,y1,y2,y3,y4,y5,y6,y7,y8,y9⟩:=qam HY2.out
  obtain ⟨z0,z1,z2,z3,z4,z5,z6,z7,z8,z9⟩:=qct HY2.out
  go_wp2
  refine bodyPost_ret (v:=.tuple #[.agg #[.string au,.string bu,.string cu,.string eu,.bool hu,.bool ku,.int .i64 (Ru:Int),.int .i64 (Ou:Int),.int .i64 (Mu:Int),.bool Du],.string ⟨#[]⟩,.int .i64 (c1:Int)]) (by simp [results,Tryz.results48,go_sem,y0,y1,y2,y3,y4,y5,y6,y7,y8,y9]) rfl ⟨rfl,qeu HB2.out (Nat.le_add_right _ 2)⟩
 by_cases h2:lok=2
 ·subst h2
  have HQ:Hid (doQ d ⟨lk,le,ltx,2,n,ot,⟨ka,ta,ra⟩,⟨kb,tb,rb⟩⟩=((qbf d n).1,⟨#[]⟩,(qbf d n).2)):=by show _=_;unfold doQ;simp only [reduceIte,Int.reduceEq]
  rw [HQ.out]
  have HC:=hI (fun (W:World)=>qme (rdOf d) n W hrk)
  obtain ⟨X,hX⟩:∃ X,qbf d n=X:=⟨_,rfl⟩
  rw [qml,hX,hr0] at HC
  rw [hX,hr0]
  obtain ⟨X,c1⟩:=X
  obtain ⟨r1,hr1⟩:∃ r,rdOf X=r:=⟨_,rfl⟩
  dsimp only at HC ⊢
  unfold qet at HC
  dsimp only at HC
  rw [hr1] at HC ⊢
  clear hX hr1 hr0 HR0 HQ hok ho hrk z1 z2 z3 h0 h1
  obtain ⟨a,b,c,e,h,k,R,O,M,D⟩:=r0
  obtain ⟨au,bu,cu,eu,hu,ku,Ru,Ou,Mu,Du⟩:=r1
  unfold rdV qbh at HC
  unfold rdV qbh
  dsimp only at HC ⊢
  go_enter Tryz.func48,Tryz.ntmps48
  go_wp2_with fail
  refine (HC.out _).mono ?_
  rintro e w1 ⟨rfl,hb1⟩
  obtain ⟨q0,q1,q2⟩:=qhk w (.cells #[.string a,.string b,.string c,.string e,.bool h,.bool k,.int .i64 (R:Int),.int .i64 (O:Int),.int .i64 (M:Int),.bool D] 33) (.cells #[.int .i64 2,.int .i64 n,.string ot,.int .i64 ka,.string ta,.bool ra,.int .i64 kb,.string tb,.bool rb] 60) (.cells #[.string ⟨#[]⟩,.string ⟨#[]⟩,.string ⟨#[]⟩,.string ⟨#[]⟩,.bool false,.bool false,.int .i64 0,.int .i64 0,.int .i64 0,.bool false] 33)
  have hl0:=qaa q0
  have hl2:=qaa q2
  have HX1:Hid (w1.heap[w.heap.size]?=some (.cells #[.string a,.string b,.string c,.string e,.bool h,.bool k,.int .i64 (R:Int),.int .i64 (O:Int),.int .i64 (M:Int),.bool D] 33 (0,0))):=(hb1.block _ hl0).trans q0
  have HY1:Hid (w1.heap[w.heap.size + 2]?=some (.cells #[.string ⟨#[]⟩,.string ⟨#[]⟩,.string ⟨#[]⟩,.string ⟨#[]⟩,.bool false,.bool false,.int .i64 0,.int .i64 0,.int .i64 0,.bool false] 33 (0,0))):=(hb1.block _ hl2).trans q2
  have HB1:Hid (Below w.heap.size w w1):=qad (qab (qab (bel1 w _) _) _) hb1
  clear hb1 HC q0 q1 q2 hl0 hl2
  obtain ⟨p0,p1,p2,p3,p4,p5,p6,p7,p8,p9⟩:=qam HX1.out
  obtain ⟨q0,q1,q2,q3,q4,q5,q6,q7,q8,q9⟩:=qct HX1.out
  go_upto_region 17 with fail
  generalize hw2:((((((((((w1.setCell ⟨w.heap.size,0,none⟩ (.string au)).setCell ⟨w.heap.size,1,none⟩ (.string bu)).setCell ⟨w.heap.size,2,none⟩ (.string cu)).setCell ⟨w.heap.size,3,none⟩ (.string eu)).setCell ⟨w.heap.size,4,none⟩ (.bool hu)).setCell ⟨w.heap.size,5,none⟩ (.bool ku)).setCell ⟨w.heap.size,6,none⟩ (.int .i64 (Ru:Int))).setCell ⟨w.heap.size,7,none⟩ (.int .i64 (Ou:Int))).setCell ⟨w.heap.size,8,none⟩ (.int .i64 (Mu:Int))).setCell ⟨w.heap.size,9,none⟩ (.bool Du))=w2
  have HX2:Hid (w2.heap[w.heap.size]?=some (.cells #[.string au,.string bu,.string cu,.string eu,.bool hu,.bool ku,.int .i64 (Ru:Int),.int .i64 (Ou:Int),.int .i64 (Mu:Int),.bool Du] 33 (0,0))):=by rw [←hw2];exact qmb HX1.out
  have HY2:Hid (w2.heap[w.heap.size + 2]?=some (.cells #[.string ⟨#[]⟩,.string ⟨#[]⟩,.string ⟨#[]⟩,.string ⟨#[]⟩,.bool false,.bool false,.int .i64 0,.int .i64 0,.int .i64 0,.bool false] 33 (0,0))):=by rw [←hw2];exact qfc HY1.out (by omega)
  have HB2:Hid (Below w.heap.size w w2):=by rw [←hw2];exact qeu HB1.out (Nat.le_refl _)
  clear hw2 HX1 HY1 HB1 p0 p1 p2 p3 p4 p5 p6 p7 p8 p9 q0 q1 q2 q3 q4 q5 q6 q7 q8 q9
  obtain ⟨p0,p1,p2,p3,p4,p5,p6,p7,p8,p9⟩:=qam HX2.out
  obtain ⟨y0,y1,y2,y3,y4,y5,y6,y7,y8,y9⟩:=qam HY2.out
  obtain ⟨z0,z1,z2,z3,z4,z5,z6,z7,z8,z9⟩:=qct HY2.out
  go_wp2
  refine bodyPost_ret (v:=.tuple #[.agg #[.string au,.string bu,.string cu,.string eu,.bool hu,.bool ku,.int .i64 (Ru:Int),.int .i64 (Ou:Int),.int .i64 (Mu:Int),.bool Du],.string ⟨#[]⟩,.int .i64 (c1:Int)]) (by simp [results,Tryz.results48,go_sem,y0,y1,y2,y3,y4,y5,y6,y7,y8,y9]) rfl ⟨rfl,qeu HB2.out (Nat.le_add_right _ 2)⟩
 by_cases h3:lok=3
 ·subst h3
  have HQ:Hid (doQ d ⟨lk,le,ltx,3,n,ot,⟨ka,ta,ra⟩,⟨kb,tb,rb⟩⟩=(d,(qcu d n).1,(qcu d n).2)):=by show _=_;unfold doQ;simp only [reduceIte,Int.reduceEq]
  rw [HQ.out]
  have HC:=hI (fun (W:World)=>qfh (rdOf d) n W hrk)
  obtain ⟨X,hX⟩:∃ X,qcu d n=X:=⟨_,rfl⟩
  rw [qfj hok,hX,hr0] at HC
  rw [hX,hr0]
  obtain ⟨X,c1⟩:=X
  unfold qgg at HC
  dsimp only at HC ⊢
  clear hX hr0 HR0 HQ hok ho hrk z1 z2 z3 h0 h1 h2
  obtain ⟨a,b,c,e,h,k,R,O,M,D⟩:=r0
  unfold rdV qbh at HC
  unfold rdV qbh
  dsimp only at HC ⊢
  go_enter Tryz.func48,Tryz.ntmps48
  go_wp2_with fail
  refine (HC.out _).mono ?_
  rintro e w1 ⟨rfl,hb1⟩
  obtain ⟨q0,q1,q2⟩:=qhk w (.cells #[.string a,.string b,.string c,.string e,.bool h,.bool k,.int .i64 (R:Int),.int .i64 (O:Int),.int .i64 (M:Int),.bool D] 33) (.cells #[.int .i64 3,.int .i64 n,.string ot,.int .i64 ka,.string ta,.bool ra,.int .i64 kb,.string tb,.bool rb] 60) (.cells #[.string ⟨#[]⟩,.string ⟨#[]⟩,.string ⟨#[]⟩,.string ⟨#[]⟩,.bool false,.bool false,.int .i64 0,.int .i64 0,.int .i64 0,.bool false] 33)
  have hl0:=qaa q0
  have hl2:=qaa q2
  have HX1:Hid (w1.heap[w.heap.size]?=some (.cells #[.string a,.string b,.string c,.string e,.bool h,.bool k,.int .i64 (R:Int),.int .i64 (O:Int),.int .i64 (M:Int),.bool D] 33 (0,0))):=(hb1.block _ hl0).trans q0
  have HY1:Hid (w1.heap[w.heap.size + 2]?=some (.cells #[.string ⟨#[]⟩,.string ⟨#[]⟩,.string ⟨#[]⟩,.string ⟨#[]⟩,.bool false,.bool false,.int .i64 0,.int .i64 0,.int .i64 0,.bool false] 33 (0,0))):=(hb1.block _ hl2).trans q2
  have HB1:Hid (Below w.heap.size w w1):=qad (qab (qab (bel1 w _) _) _) hb1
  clear hb1 HC q0 q1 q2 hl0 hl2
  obtain ⟨p0,p1,p2,p3,p4,p5,p6,p7,p8,p9⟩:=qam HX1.out
  obtain ⟨y0,y1,y2,y3,y4,y5,y6,y7,y8,y9⟩:=qam HY1.out
  obtain ⟨z0,z1,z2,z3,z4,z5,z6,z7,z8,z9⟩:=qct HY1.out
  go_wp2
  refine bodyPost_ret (v:=.tuple #[.agg #[.string a,.string b,.string c,.string e,.bool h,.bool k,.int .i64 (R:Int),.int .i64 (O:Int),.int .i64 (M:Int),.bool D],.string X,.int .i64 (c1:Int)]) (by simp [results,Tryz.results48,go_sem,y0,y1,y2,y3,y4,y5,y6,y7,y8,y9]) rfl ⟨rfl,qeu HB1.out (Nat.le_add_right _ 2)⟩
 have HARM:Hid (∀ k:Int,rArmQ (rdOf d) k=(rdOf (armQ d k).1,(armQ d k).2)):=fun k=>by
  unfold rArmQ armQ
  by_cases hd:d.dead=true
  ·rw [if_pos (show (rdOf d).dead=true from hd),if_pos hd]
  ·rw [if_neg (show ¬ (rdOf d).dead=true from hd),if_neg hd]
   split <;> rfl
 by_cases h4:lok=4
 ·subst h4
  have HQ:Hid (doQ d ⟨lk,le,ltx,4,n,ot,⟨ka,ta,ra⟩,⟨kb,tb,rb⟩⟩=((armQ d n).1,⟨#[]⟩,(armQ d n).2)):=by show _=_;unfold doQ;simp only [reduceIte,Int.reduceEq]
  rw [HQ.out]
  have HC:=hI (fun (W:World)=>rArm_any (rdOf d) n W)
  obtain ⟨X,hX⟩:∃ X,armQ d n=X:=⟨_,rfl⟩
  rw [HARM.out,hX,hr0] at HC
  rw [hX,hr0]
  obtain ⟨X,c1⟩:=X
  obtain ⟨r1,hr1⟩:∃ r,rdOf X=r:=⟨_,rfl⟩
  dsimp only at HC ⊢
  unfold qet at HC
  dsimp only at HC
  rw [hr1] at HC ⊢
  clear HARM hX hr1 hr0 HR0 HQ hok ho hrk z1 z2 z3 h0 h1 h2 h3
  obtain ⟨a,b,c,e,h,k,R,O,M,D⟩:=r0
  obtain ⟨au,bu,cu,eu,hu,ku,Ru,Ou,Mu,Du⟩:=r1
  unfold rdV qbh at HC
  unfold rdV qbh
  dsimp only at HC ⊢
  go_enter Tryz.func48,Tryz.ntmps48
  go_wp2_with fail
  refine (HC.out _).mono ?_
  rintro e w1 ⟨rfl,hb1⟩
  obtain ⟨q0,q1,q2⟩:=qhk w (.cells #[.string a,.string b,.string c,.string e,.bool h,.bool k,.int .i64 (R:Int),.int .i64 (O:Int),.int .i64 (M:Int),.bool D] 33) (.cells #[.int .i64 4,.int .i64 n,.string ot,.int .i64 ka,.string ta,.bool ra,.int .i64 kb,.string tb,.bool rb] 60) (.cells #[.string ⟨#[]⟩,.string ⟨#[]⟩,.string ⟨#[]⟩,.string ⟨#[]⟩,.bool false,.bool false,.int .i64 0,.int .i64 0,.int .i64 0,.bool false] 33)
  have hl0:=qaa q0
  have hl2:=qaa q2
  have HX1:Hid (w1.heap[w.heap.size]?=some (.cells #[.string a,.string b,.string c,.string e,.bool h,.bool k,.int .i64 (R:Int),.int .i64 (O:Int),.int .i64 (M:Int),.bool D] 33 (0,0))):=(hb1.block _ hl0).trans q0
  have HY1:Hid (w1.heap[w.heap.size + 2]?=some (.cells #[.string ⟨#[]⟩,.string ⟨#[]⟩,.string ⟨#[]⟩,.string ⟨#[]⟩,.bool false,.bool false,.int .i64 0,.int .i64 0,.int .i64 0,.bool false] 33 (0,0))):=(hb1.block _ hl2).trans q2
  have HB1:Hid (Below w.heap.size w w1):=qad (qab (qab (bel1 w _) _) _) hb1
  clear hb1 HC q0 q1 q2 hl0 hl2
  obtain ⟨p0,p1,p2,p3,p4,p5,p6,p7,p8,p9⟩:=qam HX1.out
  obtain ⟨q0,q1,q2,q3,q4,q5,q6,q7,q8,q9⟩:=qct HX1.out
  go_upto_region 17 with fail
  generalize hw2:((((((((((w1.setCell ⟨w.heap.size,0,none⟩ (.string au)).setCell ⟨w.heap.size,1,none⟩ (.string bu)).setCell ⟨w.heap.size,2,none⟩ (.string cu)).setCell ⟨w.heap.size,3,none⟩ (.string eu)).setCell ⟨w.heap.size,4,none⟩ (.bool hu)).setCell ⟨w.heap.size,5,none⟩ (.bool ku)).setCell ⟨w.heap.size,6,none⟩ (.int .i64 (Ru:Int))).setCell ⟨w.heap.size,7,none⟩ (.int .i64 (Ou:Int))).setCell ⟨w.heap.size,8,none⟩ (.int .i64 (Mu:Int))).setCell ⟨w.heap.size,9,none⟩ (.bool Du))=w2
  have HX2:Hid (w2.heap[w.heap.size]?=some (.cells #[.string au,.string bu,.string cu,.string eu,.bool hu,.bool ku,.int .i64 (Ru:Int),.int .i64 (Ou:Int),.int .i64 (Mu:Int),.bool Du] 33 (0,0))):=by rw [←hw2];exact qmb HX1.out
  have HY2:Hid (w2.heap[w.heap.size + 2]?=some (.cells #[.string ⟨#[]⟩,.string ⟨#[]⟩,.string ⟨#[]⟩,.string ⟨#[]⟩,.bool false,.bool false,.int .i64 0,.int .i64 0,.int .i64 0,.bool false] 33 (0,0))):=by rw [←hw2];exact qfc HY1.out (by omega)
  have HB2:Hid (Below w.heap.size w w2):=by rw [←hw2];exact qeu HB1.out (Nat.le_refl _)
  clear hw2 HX1 HY1 HB1 p0 p1 p2 p3 p4 p5 p6 p7 p8 p9 q0 q1 q2 q3 q4 q5 q6 q7 q8 q9
  obtain ⟨p0,p1,p2,p3,p4,p5,p6,p7,p8,p9⟩:=qam HX2.out
  obtain ⟨y0,y1,y2,y3,y4,y5,y6,y7,y8,y9⟩:=qam HY2.out
  obtain ⟨z0,z1,z2,z3,z4,z5,z6,z7,z8,z9⟩:=qct HY2.out
  go_wp2
  refine bodyPost_ret (v:=.tuple #[.agg #[.string au,.string bu,.string cu,.string eu,.bool hu,.bool ku,.int .i64 (Ru:Int),.int .i64 (Ou:Int),.int .i64 (Mu:Int),.bool Du],.string ⟨#[]⟩,.int .i64 (c1:Int)]) (by simp [results,Tryz.results48,go_sem,y0,y1,y2,y3,y4,y5,y6,y7,y8,y9]) rfl ⟨rfl,qeu HB2.out (Nat.le_add_right _ 2)⟩
 by_cases h5:lok=5
 ·subst h5
  have HQ:Hid (doQ d ⟨lk,le,ltx,5,n,ot,⟨ka,ta,ra⟩,⟨kb,tb,rb⟩⟩=({ d with dead:=true },⟨#[]⟩,0)):=by show _=_;unfold doQ;simp only [reduceIte,Int.reduceEq]
  rw [HQ.out]
  have HC:=hI (fun (W:World)=>rOff_any (rdOf d) W)
  obtain ⟨r1,hr1⟩:∃ r,rdOf { d with dead:=true }=r:=⟨_,rfl⟩
  rw [show (rdOf d).dies=rdOf { d with dead:=true } from rfl,hr1,hr0] at HC
  dsimp only
  rw [hr1,hr0]
  obtain ⟨c1,hc1⟩:∃ c:Nat,c=0:=⟨0,rfl⟩
  clear HARM hr1 hr0 HR0 HQ hok ho hrk z1 z2 z3 h0 h1 h2 h3 h4
  obtain ⟨a,b,c,e,h,k,R,O,M,D⟩:=r0
  obtain ⟨au,bu,cu,eu,hu,ku,Ru,Ou,Mu,Du⟩:=r1
  unfold rdV qbh at HC
  unfold rdV qbh
  dsimp only at HC ⊢
  go_enter Tryz.func48,Tryz.ntmps48
  go_wp2_with fail
  refine (HC.out _).mono ?_
  rintro e w1 ⟨rfl,hb1⟩
  obtain ⟨q0,q1,q2⟩:=qhk w (.cells #[.string a,.string b,.string c,.string e,.bool h,.bool k,.int .i64 (R:Int),.int .i64 (O:Int),.int .i64 (M:Int),.bool D] 33) (.cells #[.int .i64 5,.int .i64 n,.string ot,.int .i64 ka,.string ta,.bool ra,.int .i64 kb,.string tb,.bool rb] 60) (.cells #[.string ⟨#[]⟩,.string ⟨#[]⟩,.string ⟨#[]⟩,.string ⟨#[]⟩,.bool false,.bool false,.int .i64 0,.int .i64 0,.int .i64 0,.bool false] 33)
  have hl0:=qaa q0
  have hl2:=qaa q2
  have HX1:Hid (w1.heap[w.heap.size]?=some (.cells #[.string a,.string b,.string c,.string e,.bool h,.bool k,.int .i64 (R:Int),.int .i64 (O:Int),.int .i64 (M:Int),.bool D] 33 (0,0))):=(hb1.block _ hl0).trans q0
  have HY1:Hid (w1.heap[w.heap.size + 2]?=some (.cells #[.string ⟨#[]⟩,.string ⟨#[]⟩,.string ⟨#[]⟩,.string ⟨#[]⟩,.bool false,.bool false,.int .i64 0,.int .i64 0,.int .i64 0,.bool false] 33 (0,0))):=(hb1.block _ hl2).trans q2
  have HB1:Hid (Below w.heap.size w w1):=qad (qab (qab (bel1 w _) _) _) hb1
  clear hb1 HC q0 q1 q2 hl0 hl2
  obtain ⟨p0,p1,p2,p3,p4,p5,p6,p7,p8,p9⟩:=qam HX1.out
  obtain ⟨q0,q1,q2,q3,q4,q5,q6,q7,q8,q9⟩:=qct HX1.out
  go_upto_region 17 with fail
  generalize hw2:((((((((((w1.setCell ⟨w.heap.size,0,none⟩ (.string au)).setCell ⟨w.heap.size,1,none⟩ (.string bu)).setCell ⟨w.heap.size,2,none⟩ (.string cu)).setCell ⟨w.heap.size,3,none⟩ (.string eu)).setCell ⟨w.heap.size,4,none⟩ (.bool hu)).setCell ⟨w.heap.size,5,none⟩ (.bool ku)).setCell ⟨w.heap.size,6,none⟩ (.int .i64 (Ru:Int))).setCell ⟨w.heap.size,7,none⟩ (.int .i64 (Ou:Int))).setCell ⟨w.heap.size,8,none⟩ (.int .i64 (Mu:Int))).setCell ⟨w.heap.size,9,none⟩ (.bool Du))=w2
  have HX2:Hid (w2.heap[w.heap.size]?=some (.cells #[.string au,.string bu,.string cu,.string eu,.bool hu,.bool ku,.int .i64 (Ru:Int),.int .i64 (Ou:Int),.int .i64 (Mu:Int),.bool Du] 33 (0,0))):=by rw [←hw2];exact qmb HX1.out
  have HY2:Hid (w2.heap[w.heap.size + 2]?=some (.cells #[.string ⟨#[]⟩,.string ⟨#[]⟩,.string ⟨#[]⟩,.string ⟨#[]⟩,.bool false,.bool false,.int .i64 0,.int .i64 0,.int .i64 0,.bool false] 33 (0,0))):=by rw [←hw2];exact qfc HY1.out (by omega)
  have HB2:Hid (Below w.heap.size w w2):=by rw [←hw2];exact qeu HB1.out (Nat.le_refl _)
  clear hw2 HX1 HY1 HB1 p0 p1 p2 p3 p4 p5 p6 p7 p8 p9 q0 q1 q2 q3 q4 q5 q6 q7 q8 q9
  obtain ⟨p0,p1,p2,p3,p4,p5,p6,p7,p8,p9⟩:=qam HX2.out
  obtain ⟨y0,y1,y2,y3,y4,y5,y6,y7,y8,y9⟩:=qam HY2.out
  obtain ⟨z0,z1,z2,z3,z4,z5,z6,z7,z8,z9⟩:=qct HY2.out
  go_wp2
  refine bodyPost_ret (v:=.tuple #[.agg #[.string au,.string bu,.string cu,.string eu,.bool hu,.bool ku,.int .i64 (Ru:Int),.int .i64 (Ou:Int),.int .i64 (Mu:Int),.bool Du],.string ⟨#[]⟩,.int .i64 0]) (by simp [results,Tryz.results48,go_sem,y0,y1,y2,y3,y4,y5,y6,y7,y8,y9]) rfl ⟨rfl,qeu HB2.out (Nat.le_add_right _ 2)⟩
 by_cases h6:lok=6
 ·subst h6
  have HQ:Hid (doQ d ⟨lk,le,ltx,6,n,ot,⟨ka,ta,ra⟩,⟨kb,tb,rb⟩⟩=(qnd d ⟨ka,ta,ra⟩ ⟨kb,tb,rb⟩,⟨#[]⟩,0)):=by show _=_;unfold doQ;simp only [reduceIte,Int.reduceEq]
  rw [HQ.out]
  have HC:=hI (fun (W:World)=>rBoot_any (rdOf d) ⟨ka,ta,ra⟩ ⟨kb,tb,rb⟩ W hrk (by dsimp only;omega) (by dsimp only;omega))
  have HO1:=hI (fun (W:World)=>qtw ⟨ka,ta,ra⟩ W)
  have HO2:=hI (fun (W:World)=>qtw ⟨kb,tb,rb⟩ W)
  obtain ⟨r1,hr1⟩:∃ r,rdOf (qnd d ⟨ka,ta,ra⟩ ⟨kb,tb,rb⟩)=r:=⟨_,rfl⟩
  rw [←rdOf_boot hok,hr1,hr0] at HC
  dsimp only
  rw [hr1,hr0]
  unfold chV at HC HO1 HO2
  clear HARM hr1 hr0 HR0 HQ hok ho hrk z1 z2 z3 h0 h1 h2 h3 h4 h5
  obtain ⟨a,b,c,e,h,k,R,O,M,D⟩:=r0
  obtain ⟨au,bu,cu,eu,hu,ku,Ru,Ou,Mu,Du⟩:=r1
  unfold rdV qbh at HC
  unfold rdV qbh
  dsimp only at HC HO1 HO2 ⊢
  go_enter Tryz.func48,Tryz.ntmps48
  go_upto_region 16 with fail
  generalize hw1:((w.alloc (.cells #[.string a,.string b,.string c,.string e,.bool h,.bool k,.int .i64 (R:Int),.int .i64 (O:Int),.int .i64 (M:Int),.bool D] 33)).alloc (.cells #[.int .i64 6,.int .i64 n,.string ot,.int .i64 ka,.string ta,.bool ra,.int .i64 kb,.string tb,.bool rb] 60)).alloc (.cells #[.string ⟨#[]⟩,.string ⟨#[]⟩,.string ⟨#[]⟩,.string ⟨#[]⟩,.bool false,.bool false,.int .i64 0,.int .i64 0,.int .i64 0,.bool false] 33)=w1
  obtain ⟨q0,q1,q2⟩:=qhk w (.cells #[.string a,.string b,.string c,.string e,.bool h,.bool k,.int .i64 (R:Int),.int .i64 (O:Int),.int .i64 (M:Int),.bool D] 33) (.cells #[.int .i64 6,.int .i64 n,.string ot,.int .i64 ka,.string ta,.bool ra,.int .i64 kb,.string tb,.bool rb] 60) (.cells #[.string ⟨#[]⟩,.string ⟨#[]⟩,.string ⟨#[]⟩,.string ⟨#[]⟩,.bool false,.bool false,.int .i64 0,.int .i64 0,.int .i64 0,.bool false] 33)
  rw [hw1] at q0 q1 q2
  have HX1:Hid (w1.heap[w.heap.size]?=some (.cells #[.string a,.string b,.string c,.string e,.bool h,.bool k,.int .i64 (R:Int),.int .i64 (O:Int),.int .i64 (M:Int),.bool D] 33 (0,0))):=q0
  have HA1:Hid (w1.heap[w.heap.size + 1]?=some (.cells #[.int .i64 6,.int .i64 n,.string ot,.int .i64 ka,.string ta,.bool ra,.int .i64 kb,.string tb,.bool rb] 60 (0,0))):=q1
  have HY1:Hid (w1.heap[w.heap.size + 2]?=some (.cells #[.string ⟨#[]⟩,.string ⟨#[]⟩,.string ⟨#[]⟩,.string ⟨#[]⟩,.bool false,.bool false,.int .i64 0,.int .i64 0,.int .i64 0,.bool false] 33 (0,0))):=q2
  have HB1:Hid (Below w.heap.size w w1):=by rw [←hw1];exact qab (qab (bel1 w _) _) _
  clear q0 q1 q2 hw1
  have KS:Hid (∀ W,Below w1.heap.size w1 W→(W.cell? ⟨w.heap.size,0,none⟩=some (.string a)∧W.cell? ⟨w.heap.size,1,none⟩=some (.string b)∧W.cell? ⟨w.heap.size,2,none⟩=some (.string c)∧W.cell? ⟨w.heap.size,3,none⟩=some (.string e)∧W.cell? ⟨w.heap.size,4,none⟩=some (.bool h)∧W.cell? ⟨w.heap.size,5,none⟩=some (.bool k)∧W.cell? ⟨w.heap.size,6,none⟩=some (.int .i64 (R:Int))∧W.cell? ⟨w.heap.size,7,none⟩=some (.int .i64 (O:Int))∧W.cell? ⟨w.heap.size,8,none⟩=some (.int .i64 (M:Int))∧W.cell? ⟨w.heap.size,9,none⟩=some (.bool D))∧(W.cell? ⟨w.heap.size + 1,0,none⟩=some (.int .i64 6)∧W.cell? ⟨w.heap.size + 1,1,none⟩=some (.int .i64 n)∧W.cell? ⟨w.heap.size + 1,2,none⟩=some (.string ot)∧W.cell? ⟨w.heap.size + 1,3,none⟩=some (.int .i64 ka)∧W.cell? ⟨w.heap.size + 1,4,none⟩=some (.string ta)∧W.cell? ⟨w.heap.size + 1,5,none⟩=some (.bool ra)∧W.cell? ⟨w.heap.size + 1,6,none⟩=some (.int .i64 kb)∧W.cell? ⟨w.heap.size + 1,7,none⟩=some (.string tb)∧W.cell? ⟨w.heap.size + 1,8,none⟩=some (.bool rb))):=fun W hW=>by
   have h1:=(hW.block _ (qaa HA1.out)).trans HA1.out
   refine ⟨qam ((hW.block _ (qaa HX1.out)).trans HX1.out),?_,?_,?_,?_,?_,?_,?_,?_,?_⟩ <;> (rw [qac h1];rfl)
  refine qha (S:=fun W=>(W.cell? ⟨w.heap.size,0,none⟩=some (.string a)∧W.cell? ⟨w.heap.size,1,none⟩=some (.string b)∧W.cell? ⟨w.heap.size,2,none⟩=some (.string c)∧W.cell? ⟨w.heap.size,3,none⟩=some (.string e)∧W.cell? ⟨w.heap.size,4,none⟩=some (.bool h)∧W.cell? ⟨w.heap.size,5,none⟩=some (.bool k)∧W.cell? ⟨w.heap.size,6,none⟩=some (.int .i64 (R:Int))∧W.cell? ⟨w.heap.size,7,none⟩=some (.int .i64 (O:Int))∧W.cell? ⟨w.heap.size,8,none⟩=some (.int .i64 (M:Int))∧W.cell? ⟨w.heap.size,9,none⟩=some (.bool D))∧(W.cell? ⟨w.heap.size + 1,0,none⟩=some (.int .i64 6)∧W.cell? ⟨w.heap.size + 1,1,none⟩=some (.int .i64 n)∧W.cell? ⟨w.heap.size + 1,2,none⟩=some (.string ot)∧W.cell? ⟨w.heap.size + 1,3,none⟩=some (.int .i64 ka)∧W.cell? ⟨w.heap.size + 1,4,none⟩=some (.string ta)∧W.cell? ⟨w.heap.size + 1,5,none⟩=some (.bool ra)∧W.cell? ⟨w.heap.size + 1,6,none⟩=some (.int .i64 kb)∧W.cell? ⟨w.heap.size + 1,7,none⟩=some (.string tb)∧W.cell? ⟨w.heap.size + 1,8,none⟩=some (.bool rb))) (by kernel_rfl) ?_
  have hb1:=Below.refl w1.heap.size w1
  have hb1d:Below w1.heap.size w1 w1.drew:=hb1.drew
  refine qbv (some 64) (i:=0) (v:=?_) rfl rfl (by kernel_rfl) (by kernel_rfl) (by kernel_rfl) (by kernel_rfl) (fun _ _ _ h=>h) (Or.inl ⟨by rfl,?_⟩) (KS.out _ hb1d) ?_
  rotate_left
  ·(intro W hW;obtain ⟨⟨p0,p1,p2,p3,p4,p5,p6,p7,p8,p9⟩,b0,b1,b2,b3,b4,b5,b6,b7,b8⟩:=hW;go_simp;with_reducible rfl)
  simp only [Act.put,sA,s0,s1]
  refine qbv (some 65) (i:=1) (v:=?_) rfl rfl (by kernel_rfl) (by kernel_rfl) (by kernel_rfl) (by kernel_rfl) (fun _ _ _ h=>h) (Or.inl ⟨by rfl,?_⟩) (KS.out _ hb1d) ?_
  rotate_left
  ·(intro W hW;obtain ⟨⟨p0,p1,p2,p3,p4,p5,p6,p7,p8,p9⟩,b0,b1,b2,b3,b4,b5,b6,b7,b8⟩:=hW;go_simp;with_reducible rfl)
  simp only [Act.put,sA,s0,s1]
  refine qbv (some 66) (i:=2) (v:=?_) rfl rfl (by kernel_rfl) (by kernel_rfl) (by kernel_rfl) (by kernel_rfl) (fun _ _ _ h=>h) (Or.inl ⟨by rfl,?_⟩) (KS.out _ hb1d) ?_
  rotate_left
  ·(intro W hW;obtain ⟨⟨p0,p1,p2,p3,p4,p5,p6,p7,p8,p9⟩,b0,b1,b2,b3,b4,b5,b6,b7,b8⟩:=hW;go_simp;with_reducible rfl)
  simp only [Act.put,sA,s0,s1]
  refine qbv (some 68) (i:=4) (v:=?_) rfl rfl (by kernel_rfl) (by kernel_rfl) (by kernel_rfl) (by kernel_rfl) (fun _ _ _ h=>h) (Or.inl ⟨by rfl,?_⟩) (KS.out _ hb1d) ?_
  rotate_left
  ·(intro W hW;obtain ⟨⟨p0,p1,p2,p3,p4,p5,p6,p7,p8,p9⟩,b0,b1,b2,b3,b4,b5,b6,b7,b8⟩:=hW;go_simp;with_reducible rfl)
  simp only [Act.put,sA,s0,s1]
  refine qbv (some 69) (i:=5) (v:=?_) rfl rfl (by kernel_rfl) (by kernel_rfl) (by kernel_rfl) (by kernel_rfl) (fun _ _ _ h=>h) (Or.inl ⟨by rfl,?_⟩) (KS.out _ hb1d) ?_
  rotate_left
  ·(intro W hW;obtain ⟨⟨p0,p1,p2,p3,p4,p5,p6,p7,p8,p9⟩,b0,b1,b2,b3,b4,b5,b6,b7,b8⟩:=hW;go_simp;with_reducible rfl)
  simp only [Act.put,sA,s0,s1]
  refine qbn (rs:=[3]) (by kernel_rfl) (by simp) (AllReadyT.cons rfl (fun K hK=>?_) AllReadyT.nil)
  go_simp
  refine (HO1.out _).mono ?_
  rintro e wa ⟨rfl,hbx⟩
  have HBwa:=hI (qad hb1d hbx)
  clear hbx HO1
  refine hK.out _ _ (KS.out _ HBwa.out) (fun _=>?_)
  clear hK K
  refine qbn (rs:=[6]) (by kernel_rfl) (by simp) (AllReadyT.cons rfl (fun K hK=>?_) AllReadyT.nil)
  go_simp
  refine (HO2.out _).mono ?_
  rintro e wb ⟨rfl,hbx⟩
  have HBwb:=hI (qad HBwa.out hbx)
  clear hbx HO2
  refine hK.out _ _ (KS.out _ HBwb.out) (fun _=>?_)
  clear hK K
  refine qbn (rs:=[7]) (by kernel_rfl) (by simp) (AllReadyT.cons rfl (fun K hK=>?_) AllReadyT.nil)
  go_simp
  refine (HC.out _).mono ?_
  rintro e wd ⟨rfl,hbx⟩
  have HBwd:=hI (qad HBwb.out hbx)
  clear hbx HC
  refine hK.out _ _ (KS.out _ HBwd.out) (fun _=>?_)
  clear hK K
  have HX3:=hI ((HBwd.out.block _ (qaa HX1.out)).trans HX1.out)
  have HY3:=hI ((HBwd.out.block _ (qaa HY1.out)).trans HY1.out)
  have HB3:=hI (qad HB1.out HBwd.out)
  obtain ⟨p0,p1,p2,p3,p4,p5,p6,p7,p8,p9⟩:=qam HX3.out
  obtain ⟨q0,q1,q2,q3,q4,q5,q6,q7,q8,q9⟩:=qct HX3.out
  refine qbn (rs:=[8]) (by kernel_rfl) (by simp) (AllReadyT.last rfl (by kernel_rfl) (fun K hK=>?_))
  go_simp
  refine hK.out _ _ ?_
  clear hK K KS HX1 HA1 HY1 HB1 HBwa HBwb HBwd hb1 hb1d
  refine qgz (by kernel_rfl) ?_ _
  go_upto_region 17 with fail
  generalize hw2:((((((((((wd.setCell ⟨w.heap.size,0,none⟩ (.string au)).setCell ⟨w.heap.size,1,none⟩ (.string bu)).setCell ⟨w.heap.size,2,none⟩ (.string cu)).setCell ⟨w.heap.size,3,none⟩ (.string eu)).setCell ⟨w.heap.size,4,none⟩ (.bool hu)).setCell ⟨w.heap.size,5,none⟩ (.bool ku)).setCell ⟨w.heap.size,6,none⟩ (.int .i64 (Ru:Int))).setCell ⟨w.heap.size,7,none⟩ (.int .i64 (Ou:Int))).setCell ⟨w.heap.size,8,none⟩ (.int .i64 (Mu:Int))).setCell ⟨w.heap.size,9,none⟩ (.bool Du))=w2
  have HX2:Hid (w2.heap[w.heap.size]?=some (.cells #[.string au,.string bu,.string cu,.string eu,.bool hu,.bool ku,.int .i64 (Ru:Int),.int .i64 (Ou:Int),.int .i64 (Mu:Int),.bool Du] 33 (0,0))):=by rw [←hw2];exact qmb HX3.out
  have HY2:Hid (w2.heap[w.heap.size + 2]?=some (.cells #[.string ⟨#[]⟩,.string ⟨#[]⟩,.string ⟨#[]⟩,.string ⟨#[]⟩,.bool false,.bool false,.int .i64 0,.int .i64 0,.int .i64 0,.bool false] 33 (0,0))):=by rw [←hw2];exact qfc HY3.out (by omega)
  have HB2:Hid (Below w.heap.size w w2):=by rw [←hw2];exact qeu HB3.out (Nat.le_refl _)
  clear hw2 HX3 HY3 HB3 p0 p1 p2 p3 p4 p5 p6 p7 p8 p9 q0 q1 q2 q3 q4 q5 q6 q7 q8 q9
  obtain ⟨p0,p1,p2,p3,p4,p5,p6,p7,p8,p9⟩:=qam HX2.out
  obtain ⟨y0,y1,y2,y3,y4,y5,y6,y7,y8,y9⟩:=qam HY2.out
  obtain ⟨z0,z1,z2,z3,z4,z5,z6,z7,z8,z9⟩:=qct HY2.out
  go_wp2
  refine bodyPost_ret (v:=.tuple #[.agg #[.string au,.string bu,.string cu,.string eu,.bool hu,.bool ku,.int .i64 (Ru:Int),.int .i64 (Ou:Int),.int .i64 (Mu:Int),.bool Du],.string ⟨#[]⟩,.int .i64 0]) (by simp [results,Tryz.results48,go_sem,y0,y1,y2,y3,y4,y5,y6,y7,y8,y9]) rfl ⟨rfl,qeu HB2.out (Nat.le_add_right _ 2)⟩
 have HQ:Hid (doQ d ⟨lk,le,ltx,lok,n,ot,⟨ka,ta,ra⟩,⟨kb,tb,rb⟩⟩=(d,⟨#[]⟩,0)):=by show _=_;unfold doQ;rw [if_neg h0,if_neg h1,if_neg h2,if_neg h3,if_neg h4,if_neg h5,if_neg h6]
 rw [HQ.out]
 have e0:(lok == 0)=false:=by simpa using h0
 have e1:(lok == 1)=false:=by simpa using h1
 have e2:(lok == 2)=false:=by simpa using h2
 have e3:(lok == 3)=false:=by simpa using h3
 have e4:(lok == 4)=false:=by simpa using h4
 have e5:(lok == 5)=false:=by simpa using h5
 have e6:(lok == 6)=false:=by simpa using h6
 dsimp only
 rw [hr0]
 clear HARM hr0 HR0 HQ hok ho hrk z1 z2 z3 h0 h1 h2 h3 h4 h5 h6
 obtain ⟨a,b,c,e,h,k,R,O,M,D⟩:=r0
 unfold rdV qbh
 dsimp only
 go_enter Tryz.func48,Tryz.ntmps48
 go_wp2
 refine bodyPost_ret (v:=.tuple #[.agg #[.string a,.string b,.string c,.string e,.bool h,.bool k,.int .i64 (R:Int),.int .i64 (O:Int),.int .i64 (M:Int),.bool D],.string ⟨#[]⟩,.int .i64 0]) (by simp [results,Tryz.results48,go_sem]) rfl ⟨rfl,?_⟩
 repeat (first | exact bel1 w _ | refine Below.drew ?_ | refine qao ?_ _ | refine qab ?_ _)
end Go.Proofs.YtjkecckndfcbjaaGreatDoor
namespace Go.Proofs.YtjkecckndfcbjaaGreatDoor
open Go.RowKit Go.Sort Crc Nb
set_option maxRecDepth 100000
theorem qpr {W:World} {g:Nat} {t:TypeId} {x0 x1 x2 x3 x4 x5 x6 x7 x8 x9 x10 x11 x12:Value} (h:W.heap[g]?=some (.cells #[x0,x1,x2,x3,x4,x5,x6,x7,x8,x9,x10,x11,x12] t (0,0))):W.cell? ⟨g,0,none⟩=some x0∧W.cell? ⟨g,1,none⟩=some x1∧W.cell? ⟨g,2,none⟩=some x2∧W.cell? ⟨g,3,none⟩=some x3∧W.cell? ⟨g,4,none⟩=some x4∧W.cell? ⟨g,5,none⟩=some x5∧W.cell? ⟨g,6,none⟩=some x6∧W.cell? ⟨g,7,none⟩=some x7∧W.cell? ⟨g,8,none⟩=some x8∧W.cell? ⟨g,9,none⟩=some x9∧W.cell? ⟨g,10,none⟩=some x10∧W.cell? ⟨g,11,none⟩=some x11∧W.cell? ⟨g,12,none⟩=some x12:=by
 refine ⟨?_,?_,?_,?_,?_,?_,?_,?_,?_,?_,?_,?_,?_⟩ <;> (rw [qac h];rfl)
theorem But2.ofBut {w W W':World} {g k b:Nat} (x:But2 g k w W) (y:But b W W') (hb:w.heap.size≤b):But2 g k w W' :=
 ⟨y.os.trans x.os,y.tape.trans x.tape,y.output.trans x.output,Nat.le_trans x.size y.size,fun i hi h1 h2=>(y.block i (Nat.lt_of_lt_of_le hi x.size) (by omega)).trans (x.block i hi h1 h2)⟩
theorem but10_E {w W:World} {b:Nat} {v0 v1 v2 v3 v4 v5 v6 v7 v8 v9:Value} (h:But b w W):But b w ((((((((((W.setCell ⟨b,0,none⟩ v0).setCell ⟨b,1,none⟩ v1).setCell ⟨b,2,none⟩ v2).setCell ⟨b,3,none⟩ v3).setCell ⟨b,4,none⟩ v4).setCell ⟨b,5,none⟩ v5).setCell ⟨b,6,none⟩ v6).setCell ⟨b,7,none⟩ v7).setCell ⟨b,8,none⟩ v8).setCell ⟨b,9,none⟩ v9):=by
 repeat refine But.set ?_ _ _
 exact h
theorem lat_drew {W:World} {h g:Nat} {l:LG} (x:LAt W h g l):LAt W.drew h g l:=x.drew
set_option maxHeartbeats 4000000 in
theorem qsa (l:LG) (x:AC) (h g:Nat) (w:World) (hg:Glob w) (X:LAt w h g l) (hok:l.d.ok) (ho:l.d.ops≤999999980) (hz:qea x) (hk:x.k≠0∧x.k≠1∧x.k≠2∧x.k≠3) :
 Calls Tryz.prog 16 #[.pointer (some ⟨h,0,none⟩),.pointer (some ⟨g,0,none⟩),rlV (rlOf l),.agg (qhm x).toArray] w (qog h g { l with d:=(doQ l.d x).1 } w):=by
 have HX:=hI X
 have hlh:=X.lth
 have hlg:=X.ltg
 have hne:h≠g:=X.ne
 have HD:=hI (fun (W:World) (hb:Below w.heap.size w W)=>do_any l.d g x W (hg.below hb) (X.dsk.below hb) hok (by omega) hz)
 have HR:=hI (fun (W:World)=>rDo_any l.d x W hok (by omega) hz)
 have HRO:Hid (∀ d:DK,rlOf { l with d:=d }=⟨rdOf d,l.file,l.ep,l.sq,l.shut⟩):=fun d=>rfl
 have HR0:Hid (rlOf l=⟨rdOf l.d,l.file,l.ep,l.sq,l.shut⟩):=rfl
 unfold qog
 rw [HR0.out,HRO.out (doQ l.d x).1]
 obtain ⟨Y,hY⟩:∃ Y,doQ l.d x=Y:=⟨_,rfl⟩
 rw [hY] at HD HR ⊢
 obtain ⟨d1,st,cd⟩:=Y
 unfold DoP at HD
 dsimp only at HD HR ⊢
 obtain ⟨r0,hr0⟩:∃ r,rdOf l.d=r:=⟨_,rfl⟩
 obtain ⟨r1,hr1⟩:∃ r,rdOf d1=r:=⟨_,rfl⟩
 rw [hr1,hr0] at HR
 rw [hr1,hr0]
 have HLT:Hid (∀ W,But g w W→DAt W g d1→LAt W h g { l with d:=d1 }):=fun W hb hd=>HX.out.disk hb hd
 generalize hl2:({ l with d:=d1 }:LG)=l2 at HLT ⊢
 clear hl2 hr0 hr1 hY HR0 HRO hg X hok ho hz HX
 obtain ⟨ld,lf,lp,lq,ls⟩:=l
 dsimp only
 obtain ⟨la,lb,lc,le,lh,lk,lR,lO,lM,lD⟩:=r0
 obtain ⟨la1,lb1,lc1,le1,lh1,lk1,lR1,lO1,lM1,lD1⟩:=r1
 obtain ⟨xk,⟨xe1,xe2⟩,xtx,xok,xn,xot,⟨xka,xta,xra⟩,⟨xkb,xtb,xrb⟩⟩:=x
 obtain ⟨k0,k1,k2,k3⟩:=hk
 dsimp only at k0 k1 k2 k3
 have e0:(xk == 0)=false:=by simpa using k0
 have e1:(xk == 1)=false:=by simpa using k1
 have e2:(xk == 2)=false:=by simpa using k2
 have e3:(xk == 3)=false:=by simpa using k3
 unfold qit at HD HR
 unfold rdV qbh at HR
 unfold qhm
 rw [qce]
 rw [qce]
 dsimp only at HD HR ⊢
 clear k0 k1 k2 k3
 go_enter Tryz.func16,Tryz.ntmps16
 go_wp2_with fail
 refine (HD.out _ (qab (qab (bel1 w _) _) _)).mono ?_
 rintro e w1 ⟨rfl,hd1,hb1⟩
 obtain ⟨q0,q1,q2⟩:=qhk w (.cells #[.string la,.string lb,.string lc,.string le,.bool lh,.bool lk,.int .i64 (lR:Int),.int .i64 (lO:Int),.int .i64 (lM:Int),.bool lD,.int .i64 (lf:Int),.int .i64 (lp:Int),.int .i64 (lq:Int),.bool ls] 41) (.cells #[.int .i64 xk,.int .i64 xe1,.string xe2,.string xtx,.int .i64 xok,.int .i64 xn,.string xot,.int .i64 xka,.string xta,.bool xra,.int .i64 xkb,.string xtb,.bool xrb] 62) (.cells #[.string ⟨#[]⟩,.string ⟨#[]⟩,.string ⟨#[]⟩,.string ⟨#[]⟩,.bool false,.bool false,.int .i64 0,.int .i64 0,.int .i64 0,.bool false,.int .i64 0,.int .i64 0,.int .i64 0,.bool false] 41)
 have HX1:Hid (w1.heap[w.heap.size]?=some (.cells #[.string la,.string lb,.string lc,.string le,.bool lh,.bool lk,.int .i64 (lR:Int),.int .i64 (lO:Int),.int .i64 (lM:Int),.bool lD,.int .i64 (lf:Int),.int .i64 (lp:Int),.int .i64 (lq:Int),.bool ls] 41 (0,0))):=hb1.heap q0 (by omega)
 have HA1:Hid (w1.heap[w.heap.size + 1]?=some (.cells #[.int .i64 xk,.int .i64 xe1,.string xe2,.string xtx,.int .i64 xok,.int .i64 xn,.string xot,.int .i64 xka,.string xta,.bool xra,.int .i64 xkb,.string xtb,.bool xrb] 62 (0,0))):=hb1.heap q1 (by omega)
 have HY1:Hid (w1.heap[w.heap.size + 2]?=some (.cells #[.string ⟨#[]⟩,.string ⟨#[]⟩,.string ⟨#[]⟩,.string ⟨#[]⟩,.bool false,.bool false,.int .i64 0,.int .i64 0,.int .i64 0,.bool false,.int .i64 0,.int .i64 0,.int .i64 0,.bool false] 41 (0,0))):=hb1.heap q2 (by omega)
 have HB1:Hid (But g w w1):=(But.of (qab (qab (bel1 w _) _) _)).trans hb1
 have X1:=hI (HLT.out w1 HB1.out hd1)
 clear hd1 hb1 q0 q1 q2 HD HLT
 obtain ⟨p0,p1,p2,p3,p4,p5,p6,p7,p8,p9,p10,p11,p12,p13⟩:=qaf HX1.out
 obtain ⟨a0,a1,a2,a3,a4,a5,a6,a7,a8,a9,a10,a11,a12⟩:=qpr HA1.out
 go_wp2_with fail
 refine (HR.out _).mono ?_
 rintro e w2 ⟨rfl,hb2⟩
 have HX2:Hid (w2.heap[w.heap.size]?=some (.cells #[.string la,.string lb,.string lc,.string le,.bool lh,.bool lk,.int .i64 (lR:Int),.int .i64 (lO:Int),.int .i64 (lM:Int),.bool lD,.int .i64 (lf:Int),.int .i64 (lp:Int),.int .i64 (lq:Int),.bool ls] 41 (0,0))):=(hb2.block _ (qaa HX1.out)).trans HX1.out
 have HY2:Hid (w2.heap[w.heap.size + 2]?=some (.cells #[.string ⟨#[]⟩,.string ⟨#[]⟩,.string ⟨#[]⟩,.string ⟨#[]⟩,.bool false,.bool false,.int .i64 0,.int .i64 0,.int .i64 0,.bool false,.int .i64 0,.int .i64 0,.int .i64 0,.bool false] 41 (0,0))):=(hb2.block _ (qaa HY1.out)).trans HY1.out
 have HB2:Hid (But g w w2):=HB1.out.trans (But.of hb2)
 have X2:=hI (X1.out.below hb2)
 clear hb2 HX1 HA1 HY1 HB1 X1 HR p0 p1 p2 p3 p4 p5 p6 p7 p8 p9 p10 p11 p12 p13 a0 a1 a2 a3 a4 a5 a6 a7 a8 a9 a10 a11 a12
 have hz2:w.heap.size < w2.heap.size:=qaa HX2.out
 have hz3:w.heap.size + 2 < w2.heap.size:=qaa HY2.out
 obtain ⟨p0,p1,p2,p3,p4,p5,p6,p7,p8,p9,p10,p11,p12,p13⟩:=qaf HX2.out
 obtain ⟨q0,q1,q2,q3,q4,q5,q6,q7,q8,q9,q10,q11,q12,q13⟩:=qaj HX2.out
 go_upto_region 7 with (fail)
 generalize hw5:(((((((((((w2.setCell ⟨w.heap.size,0,none⟩ (.string la1)).setCell ⟨w.heap.size,1,none⟩ (.string lb1)).setCell ⟨w.heap.size,2,none⟩ (.string lc1)).setCell ⟨w.heap.size,3,none⟩ (.string le1)).setCell ⟨w.heap.size,4,none⟩ (.bool lh1)).setCell ⟨w.heap.size,5,none⟩ (.bool lk1)).setCell ⟨w.heap.size,6,none⟩ (.int .i64 (lR1:Int))).setCell ⟨w.heap.size,7,none⟩ (.int .i64 (lO1:Int))).setCell ⟨w.heap.size,8,none⟩ (.int .i64 (lM1:Int))).setCell ⟨w.heap.size,9,none⟩ (.bool lD1))).alloc (.cells #[.string la1,.string lb1,.string lc1,.string le1,.bool lh1,.bool lk1,.int .i64 (lR1:Int),.int .i64 (lO1:Int),.int .i64 (lM1:Int),.bool lD1] 33)=w5
 have HBU:Hid (But w.heap.size w2 w5):=by rw [←hw5];exact (but10_E (But.refl _ _)).alloc _
 have HX5:Hid (w5.heap[w.heap.size]?=some (.cells #[.string la1,.string lb1,.string lc1,.string le1,.bool lh1,.bool lk1,.int .i64 (lR1:Int),.int .i64 (lO1:Int),.int .i64 (lM1:Int),.bool lD1,.int .i64 (lf:Int),.int .i64 (lp:Int),.int .i64 (lq:Int),.bool ls] 41 (0,0))):=by rw [←hw5];exact (Below.heap_alloc _ _ _ (qaa (qsx HX2.out))).trans (qsx HX2.out)
 have HY5:Hid (w5.heap[w.heap.size + 2]?=some (.cells #[.string ⟨#[]⟩,.string ⟨#[]⟩,.string ⟨#[]⟩,.string ⟨#[]⟩,.bool false,.bool false,.int .i64 0,.int .i64 0,.int .i64 0,.bool false,.int .i64 0,.int .i64 0,.int .i64 0,.bool false] 41 (0,0))):=HBU.out.heap HY2.out (by omega)
 have X5:=hI (X2.out.but HBU.out (by omega) (by omega))
 have HB5:Hid (But2 g h w w5):=(HB2.out.left h).ofBut HBU.out (Nat.le_refl _)
 clear hw5 HBU HX2 HY2 HB2 X2 hz2 hz3 p0 p1 p2 p3 p4 p5 p6 p7 p8 p9 p10 p11 p12 p13 q0 q1 q2 q3 q4 q5 q6 q7 q8 q9 q10 q11 q12 q13
 obtain ⟨p0,p1,p2,p3,p4,p5,p6,p7,p8,p9,p10,p11,p12,p13⟩:=qaf HX5.out
 obtain ⟨y0,y1,y2,y3,y4,y5,y6,y7,y8,y9,y10,y11,y12,y13⟩:=qaf HY5.out
 obtain ⟨z0,z1,z2,z3,z4,z5,z6,z7,z8,z9,z10,z11,z12,z13⟩:=qaj HY5.out
 go_region
 go_wp2
 refine bodyPost_ret (v:=.tuple #[.pointer (some ⟨h,0,none⟩),.agg #[.string la1,.string lb1,.string lc1,.string le1,.bool lh1,.bool lk1,.int .i64 (lR1:Int),.int .i64 (lO1:Int),.int .i64 (lM1:Int),.bool lD1,.int .i64 (lf:Int),.int .i64 (lp:Int),.int .i64 (lq:Int),.bool ls],.bool true]) (by simp [results,Tryz.results16,go_sem,y0,y1,y2,y3,y4,y5,y6,y7,y8,y9,y10,y11,y12,y13]) rfl ?_
 exact ⟨rfl,lat_drew (lat14 X5.out (by omega) (by omega)),(qlg HB5.out (by omega)).drew2⟩
end Go.Proofs.YtjkecckndfcbjaaGreatDoor
namespace Go.Proofs.YtjkecckndfcbjaaGreatDoor
open Go.RowKit Go.Sort
set_option maxRecDepth 100000
theorem neEv_run (x y:EV) (w:World):(binOp .neq 56 (.agg #[.int .i64 x.1,.string x.2]) (.agg #[.int .i64 y.1,.string y.2])).run Tryz.prog w=.ok (.bool (!decide (x=y))) w:=by
 have hS:Tryz.prog.underlying 56 = some (.struct (Tryz.prog.fieldsOf 56)):=by kernel_rfl
 have hp:Tryz.prog.stoodInHeld 56 = false:=by kernel_rfl
 have u3:=Tryz.underlying3
 have u9:=Tryz.underlying9
 rw [run_neq_struct,show (10000:Nat)=9999 + 1 from rfl,run_equalIn_agg w 9999 56 _ _ hS hp]
 simp only [Program.fieldsOf,Tryz.underlying56]
 go_simp
 obtain ⟨k,d⟩:=x
 obtain ⟨k',d'⟩:=y
 have hdd:(d.toList=d'.toList)↔d=d':=by
  rw [Lib.toList_data,Lib.toList_data]
  obtain ⟨⟨x⟩⟩:=d
  obtain ⟨⟨y⟩⟩:=d'
  simp
 by_cases h1:k=k' <;> by_cases h2:d=d' <;> simp [h1,h2,hdd]
theorem arr_ext_S {α:Type} [Inhabited α] {d1 d2:Array α} (hs:d1.size=d2.size) (h:∀ j,j < d1.size→d1[j]! = d2[j]!):d1=d2 :=
 Array.ext hs fun i h1 h2=>by
  have:=h i h1
  rwa [getElem!_pos d1 i h1,getElem!_pos d2 i h2] at this
set_option maxHeartbeats 2000000 in
theorem qtx (A1 A2:Option Addr) (c1 c2:Nat) (d1 d2:Array EV) (B1 B2:Nat) (w:World) (h1:RdK qbx 2 B1 w A1 d1) (h2:RdK qbx 2 B2 w A2 d2) (hm:d2.size≤100000000) :
 Calls Tryz.prog 13 #[.slice A1 d1.size c1,.slice A2 d2.size c2] w fun e w'=>e=.returned (.bool (decide (d1=d2)))∧∃ n,w'=w.drewN n:=by
 by_cases hs:d1.size=d2.size
 ·have hb:((d1.size:Int) != (d2.size:Int))=false:=by simp [hs]
  have HS:=hI hs
  have hge:d1.size≤d2.size:=by omega
  clear hs
  go_enter Tryz.func13,Tryz.ntmps13
  go_wp2
  go_loopw [5] (fun i wr=>∃ k n:Nat,k≤d1.size∧i=.int .i64 k∧wr=w.drewN n∧∀ j,j < k→d1[j]! = d2[j]!) (fun i _=>d1.size - (intOf i).toNat)
  case atStart=>exact ⟨0,0,Nat.zero_le _,rfl,rfl,fun j hj=>absurd hj (by omega)⟩
  case round =>
   obtain ⟨k,n,hk,rfl,rfl,hj⟩:=hrel
   have HJ:=hI hj;clear hj
   by_cases hlt:k < d1.size
   ·obtain ⟨b1,o1,rfl,_,f1⟩:=h1.at_ hlt
    obtain ⟨b2,o2,rfl,_,f2⟩:=h2.at_ (i:=k) (by omega)
    have e10:=f1 0 (by omega)
    have e11:=f1 1 (by omega)
    have e20:=f2 0 (by omega)
    have e21:=f2 1 (by omega)
    have hnx:=neEv_run d1[k]! d2[k]!
    generalize hx:d1[k]! = x at e10 e11 hnx
    generalize hy:d2[k]! = y at e20 e21 hnx
    have HXX:=hI hx;clear hx
    have HYY:=hI hy;clear hy
    simp only [Nat.add_zero,qbx,List.getElem!_cons_zero,List.getElem!_cons_succ] at e10 e11 e20 e21
    clear f1 f2
    have kz:(k:Int) < (d1.size:Int):=by omega
    have kz2:(k:Int) < (d2.size:Int):=by omega
    by_cases hxy:x=y
    ·have hd:decide (x=y)=true:=by simp [hxy]
     have HXY:=hI hxy;clear hxy
     rw [hd] at hnx
     clear hd
     go_wp2
     go_quiet (fail)
     go_wp2
     go_roundw
     case rel=>exact ⟨k + 1,_,by omega,by go_num,rfl,fun j hj=>by
      rcases Nat.lt_or_ge j k with h | h
      ·exact HJ.out j h
      ·obtain rfl:j=k:=by omega
       rw [HXX.out,HYY.out];exact HXY.out⟩
     case measure=>simp [intOf];omega
    ·have hd:decide (x=y)=false:=by simp [hxy]
     have HXY:=hI hxy;clear hxy
     rw [hd] at hnx
     clear hd
     go_wp2
     go_quiet (fail)
     go_wp2
     go_ret
     exact ⟨qah (by symm;rw [decide_eq_false_iff_not];rintro rfl;exact HXY.out (by rw [←HXX.out,←HYY.out])),_,World.drewN_drewN _ _ _⟩
   ·have hlt':decide ((k:Int) < (d1.size:Int))=false:=by simp;omega
    go_wp2
    go_ret
    exact ⟨qah (by symm;rw [decide_eq_true_iff];exact arr_ext_S HS.out fun j hj=>HJ.out j (by omega)),n,rfl⟩
 ·have hb:((d1.size:Int) != (d2.size:Int))=true:=by simp;omega
  have HS:=hI hs
  clear hs
  go_enter Tryz.func13,Tryz.ntmps13
  go_wp2
  go_ret
  exact ⟨qah (by symm;rw [decide_eq_false_iff_not];rintro rfl;exact HS.out rfl),0,rfl⟩
end Go.Proofs.YtjkecckndfcbjaaGreatDoor
namespace Go.Proofs.YtjkecckndfcbjaaGreatDoor
open Go.RowKit
set_option maxRecDepth 100000
set_option maxHeartbeats 4000000 in
theorem qwq (l:LG) (h g:Nat) (w:World) (X:LAt w h g l) :
 Calls Tryz.prog 18 #[.pointer (some ⟨h,0,none⟩),rlV (rlOf l)] w fun e w'=>e=.returned (.bool true)∧Below w.heap.size w w':=by
 have HX:=hI X
 have HE:=hI (fun (W:World) (hb:Below w.heap.size w W)=>qrk l h g W (X.below hb))
 have HS:=hI (fun (W:World) (hb:Below w.heap.size w W)=>qsz l h g W (X.below hb))
 have HC:=hI (fun (W:World) (hb:Below w.heap.size w W)=>qxm l h g W (X.below hb))
 obtain ⟨ll,hll⟩:∃ y,rlOf l=y:=⟨_,rfl⟩
 have hl1:l.ep=ll.ep:=by rw [←hll];rfl
 have hl2:l.sq=ll.sq:=by rw [←hll];rfl
 have hl3:l.shut=ll.shut:=by rw [←hll];rfl
 rw [hl1] at HE
 rw [hl2] at HS
 rw [hl3] at HC
 rw [hll]
 clear hl1 hl2 hl3 hll X
 obtain ⟨⟨a,b,c,e,hh,kk,R,O,M,D⟩,f,p,q,s⟩:=ll
 dsimp only at HE HS HC
 rw [qce]
 go_enter Tryz.func18,Tryz.ntmps18
 go_upto_region 1 with fail
 generalize hw1:w.alloc (.cells #[.string a,.string b,.string c,.string e,.bool hh,.bool kk,.int .i64 (R:Int),.int .i64 (O:Int),.int .i64 (M:Int),.bool D,.int .i64 (f:Int),.int .i64 (p:Int),.int .i64 (q:Int),.bool s] 41)=w1
 have hx1:w1.heap[w.heap.size]?=some (.cells #[.string a,.string b,.string c,.string e,.bool hh,.bool kk,.int .i64 (R:Int),.int .i64 (O:Int),.int .i64 (M:Int),.bool D,.int .i64 (f:Int),.int .i64 (p:Int),.int .i64 (q:Int),.bool s] 41 (0,0)):=by rw [←hw1];exact qas w _
 have HB1:Hid (Below w.heap.size w w1):=by rw [←hw1];exact bel1 w _
 have hlz:=qaa hx1
 obtain ⟨p0,p1,p2,p3,p4,p5,p6,p7,p8,p9,p10,p11,p12,p13⟩:=qaf hx1
 have a1:=fun p:ExtW w1=>p.cell (a:=⟨w.heap.size,11,none⟩) hlz p11
 have a2:=fun p:ExtW w1=>p.cell (a:=⟨w.heap.size,12,none⟩) hlz p12
 have a3:=fun p:ExtW w1=>p.cell (a:=⟨w.heap.size,13,none⟩) hlz p13
 have HE1:=hI (fun p:ExtW w1=>HE.out _ (qad HB1.out p.h))
 have HS1:=hI (fun p:ExtW w1=>HS.out _ (qad HB1.out p.h))
 have HC1:=hI (fun p:ExtW w1=>HC.out _ (qad HB1.out p.h))
 clear p0 p1 p2 p3 p4 p5 p6 p7 p8 p9 p10 p11 p12 p13 hx1 hw1 HE HS HC
 refine qai (by kernel_rfl) (by kernel_rfl) ?_
 repeat (first | go_big_quiet_step (first | (go_at_call 30;exact Calls.ext_same (HE1.out _)) | (go_at_call 14;exact Calls.ext_same (HS1.out _)) | (go_at_call 31;exact Calls.ext_same (HC1.out _))) | quiet_step (fail))
 refine wpQuiet_nil ?_
 intro wq hw'
 obtain ⟨⟨W,hbW⟩,hw''⟩:=hw'
 have hw3:wq=W:=hw''
 subst hw3
 have HBW:=hI (qad HB1.out hbW)
 clear hbW hw'' a1 a2 a3
 go_wp2
 go_ret
 exact ⟨rfl,HBW.out⟩
set_option maxHeartbeats 8000000 in
theorem qwr (d:DK) (g:Nat) (w:World) (hg:Glob w) (h:DAt w g d) (hok:d.ok) (ho:d.ops≤999999990) :
 Calls Tryz.prog 17 #[.pointer (some ⟨g,0,none⟩),rdV (rdOf d)] w fun e w'=>e=.returned (.bool true)∧Below w.heap.size w w':=by
 have h0:=hI h
 have HOK:=hI hok
 have HG:=hI (fun (W:World) (hb:Below w.heap.size w W)=>hg.below hb)
 have HRA:Hid (∀ (i:Int) (W:World),Calls Tryz.prog 39 #[rdV (rdOf d),.int .i64 i] W (qgg (qcu d i) W)):=fun i W=>by
  have:=qfh (rdOf d) i W (qen hok (by omega))
  rw [qfj hok] at this
  exact this
 have HDE:=hI (fun (W:World) (hb:Below w.heap.size w W)=>dead_any d g W (h.below hb) hok)
 have HOP:=hI (fun (W:World) (hb:Below w.heap.size w W)=>ops_any d g W (h.below hb) hok)
 obtain ⟨r,hr⟩:∃ r,rdOf d=r:=⟨_,rfl⟩
 have HSZ:Hid (r.a.size=(d.get 0).safe∧r.b.size=(d.get 1).safe):=by
  have h1:=hok.a
  have h2:=hok.b
  show _∧_
  rw [←hr]
  unfold rdOf DK.get
  simp only [ByteArray.size_extract]
  constructor
  ·show _=d.f0.safe;omega
  ·show _=d.f1.safe;omega
 have hd1:d.dead=r.dead:=by rw [←hr];rfl
 have hd2:d.ops=r.ops:=by rw [←hr];rfl
 rw [hd1] at HDE
 rw [hd2] at HOP
 rw [hr] at HRA ⊢
 clear hd1 hd2 hr hg h hok ho
 obtain ⟨a,b,c,e,hh,kk,R,O,M,D⟩:=r
 dsimp only at HDE HOP HSZ
 unfold rdV qbh
 dsimp only
 go_enter Tryz.func17,Tryz.ntmps17
 go_wp2
 go_loopw [5] (fun iv wr=>∃ k:Nat,iv=.int .i64 (k:Int)∧k≤2∧Hid (wr.heap[w.heap.size]?=some (.cells #[.string a,.string b,.string c,.string e,.bool hh,.bool kk,.int .i64 (R:Int),.int .i64 (O:Int),.int .i64 (M:Int),.bool D] 33 (0,0)))∧Hid (Below w.heap.size w wr)) (fun i _=>2 - (intOf i).toNat)
 case atStart=>exact ⟨0,rfl,by omega,hI (qas w _),hI (bel1 w _)⟩
 case round =>
  obtain ⟨k,rfl,hk,HX,HB⟩:=hrel
  obtain rfl | rfl | rfl:k=0∨k=1∨k=2:=by omega
  ·have HRD:=hI (fun (W:World) (hb:Below w.heap.size w W)=>qgm d g 0 W (h0.out.below hb) HOK.out)
   have HRR:=hI (fun (W:World)=>HRA.out 0 W)
   have HSY:=hI (fun (W:World) (hb:Below w.heap.size w W)=>qmc d g 0 W (h0.out.below hb) HOK.out (by omega))
   generalize qcu d 0=X at HRD HRR
   obtain ⟨t,c⟩:=X
   dsimp only at HRD HRR
   unfold qgg rdV qbh at HRR
   dsimp only at HRR
   have hsz:((a.size:Nat):Int)=((d.get 0).safe:Int):=by have:=HSZ.out.1;rw [this]
   have hlz:=qaa HX.out
   obtain ⟨p0,p1,p2,p3,p4,p5,p6,p7,p8,p9⟩:=qam HX.out
   go_wp2_with fail
   refine (HRD.out _ HB.out).mono ?_
   rintro e w2 ⟨v,rfl,hv,hb2⟩
   have HX2:=hI ((hb2.block _ hlz).trans HX.out)
   have HB2:=hI (qad HB.out hb2)
   have HV2:=hI hv
   clear hb2 hv hlz p0 p1 p2 p3 p4 p5 p6 p7 p8 p9
   have hlz:=qaa HX2.out
   obtain ⟨p0,p1,p2,p3,p4,p5,p6,p7,p8,p9⟩:=qam HX2.out
   go_wp2_with fail
   refine (HRR.out _).mono ?_
   rintro e w3 ⟨rfl,hb3⟩
   have HX3:=hI ((hb3.block _ hlz).trans HX2.out)
   have HB3:=hI (qad HB2.out hb3)
   have HV3:=hI (HV2.out.below hb3)
   clear hb3 HX2 HB2 HV2 hlz p0 p1 p2 p3 p4 p5 p6 p7 p8 p9
   have hlz:=qaa HX3.out
   obtain ⟨p0,p1,p2,p3,p4,p5,p6,p7,p8,p9⟩:=qam HX3.out
   have a0:=fun p:ExtW w3=>p.cell (a:=⟨w.heap.size,0,none⟩) hlz p0
   have a1:=fun p:ExtW w3=>p.cell (a:=⟨w.heap.size,1,none⟩) hlz p1
   have HC3:=hI (fun p:ExtW w3=>qbt _ (c:Int) v p.to (HG.out p.to (qad HB3.out p.h)) (HV3.out.below p.h))
   have HS3:=hI (fun p:ExtW w3=>HSY.out p.to (qad HB3.out p.h))
   clear HSY HRD HRR
   go_wp2_with fail
   refine qai (by kernel_rfl) (by kernel_rfl) ?_
   repeat (first | go_big_quiet_step (first | (go_at_call 15;exact Calls.ext_of (HC3.out _)) | (go_at_call 49;exact Calls.ext_same (HS3.out _))) | quiet_step (fail))
   refine wpQuiet_nil ?_
   intro wq hw'
   obtain ⟨⟨W,hbW⟩,hw''⟩:=hw'
   have hw3:wq=W:=hw''
   subst hw3
   have HX4:=hI ((hbW.block _ hlz).trans HX3.out)
   have HB4:=hI (qad HB3.out hbW)
   clear hbW hw'' a0 a1 p0 p1 p2 p3 p4 p5 p6 p7 p8 p9
   go_wp2
   go_roundw
   case rel=>exact ⟨1,by go_num,by omega,HX4,HB4⟩
   case measure=>simp [intOf]
  ·have HRD:=hI (fun (W:World) (hb:Below w.heap.size w W)=>qgm d g 1 W (h0.out.below hb) HOK.out)
   have HRR:=hI (fun (W:World)=>HRA.out 1 W)
   have HSY:=hI (fun (W:World) (hb:Below w.heap.size w W)=>qmc d g 1 W (h0.out.below hb) HOK.out (by omega))
   generalize qcu d 1=X at HRD HRR
   obtain ⟨t,c⟩:=X
   dsimp only at HRD HRR
   unfold qgg rdV qbh at HRR
   dsimp only at HRR
   have hsz:((b.size:Nat):Int)=((d.get 1).safe:Int):=by have:=HSZ.out.2;rw [this]
   have hlz:=qaa HX.out
   obtain ⟨p0,p1,p2,p3,p4,p5,p6,p7,p8,p9⟩:=qam HX.out
   go_wp2_with fail
   refine (HRD.out _ HB.out).mono ?_
   rintro e w2 ⟨v,rfl,hv,hb2⟩
   have HX2:=hI ((hb2.block _ hlz).trans HX.out)
   have HB2:=hI (qad HB.out hb2)
   have HV2:=hI hv
   clear hb2 hv hlz p0 p1 p2 p3 p4 p5 p6 p7 p8 p9
   have hlz:=qaa HX2.out
   obtain ⟨p0,p1,p2,p3,p4,p5,p6,p7,p8,p9⟩:=qam HX2.out
   go_wp2_with fail
   refine (HRR.out _).mono ?_
   rintro e w3 ⟨rfl,hb3⟩
   have HX3:=hI ((hb3.block _ hlz).trans HX2.out)
   have HB3:=hI (qad HB2.out hb3)
   have HV3:=hI (HV2.out.below hb3)
   clear hb3 HX2 HB2 HV2 hlz p0 p1 p2 p3 p4 p5 p6 p7 p8 p9
   have hlz:=qaa HX3.out
   obtain ⟨p0,p1,p2,p3,p4,p5,p6,p7,p8,p9⟩:=qam HX3.out
   have a0:=fun p:ExtW w3=>p.cell (a:=⟨w.heap.size,0,none⟩) hlz p0
   have a1:=fun p:ExtW w3=>p.cell (a:=⟨w.heap.size,1,none⟩) hlz p1
   have HC3:=hI (fun p:ExtW w3=>qbt _ (c:Int) v p.to (HG.out p.to (qad HB3.out p.h)) (HV3.out.below p.h))
   have HS3:=hI (fun p:ExtW w3=>HSY.out p.to (qad HB3.out p.h))
   clear HSY HRD HRR
   go_wp2_with fail
   refine qai (by kernel_rfl) (by kernel_rfl) ?_
   repeat (first | go_big_quiet_step (first | (go_at_call 15;exact Calls.ext_of (HC3.out _)) | (go_at_call 49;exact Calls.ext_same (HS3.out _))) | quiet_step (fail))
   refine wpQuiet_nil ?_
   intro wq hw'
   obtain ⟨⟨W,hbW⟩,hw''⟩:=hw'
   have hw3:wq=W:=hw''
   subst hw3
   have HX4:=hI ((hbW.block _ hlz).trans HX3.out)
   have HB4:=hI (qad HB3.out hbW)
   clear hbW hw'' a0 a1 p0 p1 p2 p3 p4 p5 p6 p7 p8 p9
   go_wp2
   go_roundw
   case rel=>exact ⟨2,by go_num,by omega,HX4,HB4⟩
   case measure=>simp [intOf]
  ·have hlz:=qaa HX.out
   obtain ⟨p0,p1,p2,p3,p4,p5,p6,p7,p8,p9⟩:=qam HX.out
   have a0:=fun p:ExtW wr=>p.cell (a:=⟨w.heap.size,7,none⟩) hlz p7
   have a1:=fun p:ExtW wr=>p.cell (a:=⟨w.heap.size,9,none⟩) hlz p9
   have HD1:=hI (fun p:ExtW wr=>HDE.out _ (qad HB.out p.h))
   have HO1:=hI (fun p:ExtW wr=>HOP.out _ (qad HB.out p.h))
   go_wp2_with fail
   refine qai (by kernel_rfl) (by kernel_rfl) ?_
   repeat (first | go_big_quiet_step (first | (go_at_call 50;exact Calls.ext_same (HD1.out _)) | (go_at_call 51;exact Calls.ext_same (HO1.out _))) | quiet_step (fail))
   refine wpQuiet_nil ?_
   intro wq hw'
   obtain ⟨⟨W,hbW⟩,hw''⟩:=hw'
   have hw3:wq=W:=hw''
   subst hw3
   have HBW:=hI (qad HB.out hbW)
   clear hbW hw'' a0 a1
   go_wp2
   go_ret
   exact ⟨rfl,HBW.out⟩
end Go.Proofs.YtjkecckndfcbjaaGreatDoor
