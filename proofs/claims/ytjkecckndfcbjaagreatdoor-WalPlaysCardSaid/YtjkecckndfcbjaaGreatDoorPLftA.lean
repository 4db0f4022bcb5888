/- Texts that the law leans on. -/
import Derived.Deep.Cut
import Derived.Test.YtjkecckndfcbjaaGreatDoorPDskB
import Derived.Test.YtjkecckndfcbjaaGreatDoorPDskE
import Derived.Test.YtjkecckndfcbjaaGreatDoorPAnyE
import Derived.Test.YtjkecckndfcbjaaGreatDoorPMsgF
namespace Go.Proofs.YtjkecckndfcbjaaGreatDoor
open Go.RowKit
set_option maxRecDepth 100000
def flV (f:FL):Value:=.agg #[.string f.s,.int .i64 (f.safe:Int),.bool f.half]
def chV (c:CH):Value:=.agg #[.int .i64 c.keep,.string c.trash,.bool c.reset]
theorem qxa {s:ByteArray} {safe:Nat} {keep:Int} {trash:ByteArray}:qfg ⟨s,safe,true⟩ ⟨keep,trash,true⟩=zF:=rfl
theorem qxb {s:ByteArray} {safe:Nat} {half reset:Bool} {keep:Int} {trash:ByteArray} (hb:(half && reset)=false) {L k j:Nat} (hL:s.size - safe=L) (hk:min keep.toNat L=k) (hj:min trash.size (L - k)=j) :
 qfg ⟨s,safe,half⟩ ⟨keep,trash,reset⟩=⟨s.extract 0 (safe + k) ++ trash.extract 0 j,safe + k + j,false⟩:=by
 unfold qfg
 rw [if_neg (by rw [hb];simp)]
 dsimp only
 rw [hL,hk,hj]
set_option maxHeartbeats 4000000 in
theorem qui (f:FL) (c:CH) (w:World) (h:f.safe≤f.s.size) (hs:f.s.size≤1000000) (ht:c.trash.size≤2000000) :
 Calls Tryz.prog 58 #[flV f,chV c] w fun e w'=>e=.returned (flV (qfg f c))∧Below w.heap.size w w':=by
 obtain ⟨s,safe,half⟩:=f
 obtain ⟨keep,trash,reset⟩:=c
 dsimp only at h hs ht
 have HB:=hI (qab (qab (bel1 w (.cells #[.string s,.int .i64 (safe:Int),.bool half] 82)) (.cells #[.int .i64 keep,.string trash,.bool reset] 58)) (.cells #[.string ⟨#[]⟩,.int .i64 0,.bool false] 82))
 by_cases hb:(half && reset)=true
 ·obtain ⟨rfl,rfl⟩:half=true∧reset=true:=by simpa using hb
  rw [qxa]
  unfold flV chV zF
  dsimp only
  clear hb
  go_enter Tryz.func58,Tryz.ntmps58
  go_wp2
  refine bodyPost_ret (v:=.agg #[.string ⟨#[]⟩,.int .i64 0,.bool false]) (by simp [results,Tryz.results58,go_sem]) rfl ⟨rfl,HB.out⟩
 have hb':(half && reset)=false:=by simpa using hb
 obtain ⟨L,hL⟩:∃ L,s.size - safe=L:=⟨_,rfl⟩
 obtain ⟨k,hk⟩:∃ k,min keep.toNat L=k:=⟨_,rfl⟩
 obtain ⟨j,hj⟩:∃ j,min trash.size (L - k)=j:=⟨_,rfl⟩
 rw [qxb hb' hL hk hj]
 obtain ⟨m,hm⟩:∃ m,safe + k=m:=⟨_,rfl⟩
 have k1:min (max keep 0) (L:Int)=(k:Int):=by omega
 have k2:min (trash.size:Int) ((L:Int) - (k:Int))=(j:Int):=by omega
 have k3:(safe:Int) + (k:Int)=(m:Int):=by omega
 have k4:m≤s.size:=by omega
 have k5:j≤trash.size:=by omega
 have HZ:Hid ((s.extract 0 m ++ trash.extract 0 j).size=m + j):=by show _=_;rw [qcy];simp;omega
 rw [hm]
 unfold flV chV
 dsimp only
 clear hk hj hm hb
 have HBB:=hI hb'
 clear hb'
 have hcs:half=false∨(half=true∧reset=false):=by
  have:=HBB.out
  cases half
  ·exact Or.inl rfl
  ·exact Or.inr ⟨rfl,by simpa using this⟩
 rcases hcs with rfl | ⟨rfl,rfl⟩
 all_goals
  go_enter Tryz.func58,Tryz.ntmps58
  go_upto_region 5 with fail
  go_region
  generalize hz:s.extract 0 m ++ trash.extract 0 j=z at HZ ⊢
  go_wp2
  refine bodyPost_ret (v:=.agg #[.string z,.int .i64 ((m + j:Nat):Int),.bool false]) (by simp [results,Tryz.results58,go_sem,HZ.out]) rfl ⟨by rw [hz],(qab (qab (bel1 w _) _) _).drew⟩
theorem set6 {W:World} {g:Nat} {d:DK} (h:DAt W g d) (x y:FL):DAt ((((((((W.setCell ⟨g,0,none⟩ (.string x.s)).setCell ⟨g,1,none⟩ (.int .i64 (x.safe:Int))).setCell ⟨g,2,none⟩ (.bool x.half)).setCell ⟨g,3,none⟩ (.string y.s)).setCell ⟨g,4,none⟩ (.int .i64 (y.safe:Int))).setCell ⟨g,5,none⟩ (.bool y.half)).setCell ⟨g,8,none⟩ (.int .i64 0)).setCell ⟨g,9,none⟩ (.bool false)) g { d with f0:=x,f1:=y,arm:=0,dead:=false }:=by
 have h1:=qae (qae (qae (qae (qae (qae (qae (qae h 0 (.string x.s)) 1 (.int .i64 (x.safe:Int))) 2 (.bool x.half)) 3 (.string y.s)) 4 (.int .i64 (y.safe:Int))) 5 (.bool y.half)) 8 (.int .i64 0)) 9 (.bool false)
 unfold DAt
 rw [h1]
 unfold encD
 simp only [List.setIfInBounds_toArray,List.set_cons_succ,List.set_cons_zero]
 rfl
theorem but6 {w W:World} {g:Nat} (h:But g w W) (a b c d e f x y:Value):But g w ((((((((W.setCell ⟨g,0,none⟩ a).setCell ⟨g,1,none⟩ b).setCell ⟨g,2,none⟩ c).setCell ⟨g,3,none⟩ d).setCell ⟨g,4,none⟩ e).setCell ⟨g,5,none⟩ f).setCell ⟨g,8,none⟩ x).setCell ⟨g,9,none⟩ y):=by
 repeat refine But.set ?_ _ _
 exact h
set_option maxHeartbeats 8000000 in
theorem boot_any (d:DK) (g:Nat) (a b:CH) (w:World) (h:DAt w g d) (hok:d.ok) (ha:a.trash.size≤2000000) (hb:b.trash.size≤2000000) :
 Calls Tryz.prog 23 #[.pointer (some ⟨g,0,none⟩),chV a,chV b] w fun e w'=>e=.returned .nilIface∧DAt w' g (qnd d a b)∧But g w w':=by
 have hr:=hok.room
 have hf:=hok.fit
 have HL0:=hI (fun (W:World)=>qui d.f0 a W hok.a (by omega) ha)
 have HL1:=hI (fun (W:World)=>qui d.f1 b W hok.b (by omega) hb)
 have HM:=hI (fun (W:World) (hw:DAt W g d)=>qgo d g W hw hok.one)
 have HBO:Hid (qnd d a b={ d with f0:=qfg d.f0 a,f1:=qfg d.f1 b,arm:=0,dead:=false }):=rfl
 rw [HBO.out]
 generalize qfg d.f0 a=x at HL0 ⊢
 generalize qfg d.f1 b=y at HL1 ⊢
 have hlt:=h.lt
 have h0:DAt ((w.alloc (.cells #[.int .i64 a.keep,.string a.trash,.bool a.reset] 58)).alloc (.cells #[.int .i64 b.keep,.string b.trash,.bool b.reset] 58)) g d:=(h.below (bel1 w _)).below (bel1 _ _)
 have HB0:Hid (But g w ((w.alloc (.cells #[.int .i64 a.keep,.string a.trash,.bool a.reset] 58)).alloc (.cells #[.int .i64 b.keep,.string b.trash,.bool b.reset] 58))):=But.of (qab (bel1 w _) _)
 have hba:=(qjc (W:=w) (n:=w.heap.size) (v:=.int .i64 a.keep) (t:=0) rfl)
 clear hba
 unfold flV chV at HL0 HL1
 unfold chV
 go_enter Tryz.func23,Tryz.ntmps23
 go_upto_region 3 with (go_at_call 57;refine (HM.out _ h0).mono ?_;rintro _ _ ⟨rfl,rfl⟩)
 generalize hw1:(w.alloc (.cells #[.int .i64 a.keep,.string a.trash,.bool a.reset] 58)).alloc (.cells #[.int .i64 b.keep,.string b.trash,.bool b.reset] 58)=w1 at h0 HB0 ⊢
 have HA:Hid (w1.heap[w.heap.size]?=some (.cells #[.int .i64 a.keep,.string a.trash,.bool a.reset] 58 (0,0))):=by rw [←hw1];exact (Below.heap_alloc _ _ _ (by simp)).trans (qas w _)
 have HC:Hid (w1.heap[w.heap.size + 1]?=some (.cells #[.int .i64 b.keep,.string b.trash,.bool b.reset] 58 (0,0))):=by
  rw [←hw1]
  have hx:=qas (w.alloc (.cells #[.int .i64 a.keep,.string a.trash,.bool a.reset] 58)) (.cells #[.int .i64 b.keep,.string b.trash,.bool b.reset] 58)
  rw [show (w.alloc (.cells #[.int .i64 a.keep,.string a.trash,.bool a.reset] 58)).heap.size=w.heap.size + 1 by simp] at hx
  exact hx
 have H0:=hI h0
 clear hw1 HM h0 h hok hr hf ha hb HBO
 have KS:Hid (∀ W,Below w1.heap.size w1 W→(∀ j,W.frozen? ⟨g,j,none⟩=false)∧(W.cell? ⟨g,0,none⟩=some (.string d.f0.s)∧W.cell? ⟨g,1,none⟩=some (.int .i64 (d.f0.safe:Int))∧W.cell? ⟨g,2,none⟩=some (.bool d.f0.half)∧W.cell? ⟨g,3,none⟩=some (.string d.f1.s)∧W.cell? ⟨g,4,none⟩=some (.int .i64 (d.f1.safe:Int))∧W.cell? ⟨g,5,none⟩=some (.bool d.f1.half))∧(W.cell? ⟨w.heap.size,0,none⟩=some (.int .i64 a.keep)∧W.cell? ⟨w.heap.size,1,none⟩=some (.string a.trash)∧W.cell? ⟨w.heap.size,2,none⟩=some (.bool a.reset))∧(W.cell? ⟨w.heap.size + 1,0,none⟩=some (.int .i64 b.keep)∧W.cell? ⟨w.heap.size + 1,1,none⟩=some (.string b.trash)∧W.cell? ⟨w.heap.size + 1,2,none⟩=some (.bool b.reset))):=fun W hW=>by
  have hd:=H0.out.below hW
  have h1:=(hW.block _ (qaa HA.out)).trans HA.out
  have h2:=(hW.block _ (qaa HC.out)).trans HC.out
  obtain ⟨a0,a1,a2,a3,a4,a5,-⟩:=hd.cells
  refine ⟨fun j=>hd.frozen j,⟨a0,a1,a2,a3,a4,a5⟩,⟨?_,?_,?_⟩,?_,?_,?_⟩ <;> first | (rw [qac h1];rfl) | (rw [qac h2];rfl)
 go_wp2_with fail
 refine qha (S:=fun W=>(∀ j,W.frozen? ⟨g,j,none⟩=false)∧(W.cell? ⟨g,0,none⟩=some (.string d.f0.s)∧W.cell? ⟨g,1,none⟩=some (.int .i64 (d.f0.safe:Int))∧W.cell? ⟨g,2,none⟩=some (.bool d.f0.half)∧W.cell? ⟨g,3,none⟩=some (.string d.f1.s)∧W.cell? ⟨g,4,none⟩=some (.int .i64 (d.f1.safe:Int))∧W.cell? ⟨g,5,none⟩=some (.bool d.f1.half))∧(W.cell? ⟨w.heap.size,0,none⟩=some (.int .i64 a.keep)∧W.cell? ⟨w.heap.size,1,none⟩=some (.string a.trash)∧W.cell? ⟨w.heap.size,2,none⟩=some (.bool a.reset))∧(W.cell? ⟨w.heap.size + 1,0,none⟩=some (.int .i64 b.keep)∧W.cell? ⟨w.heap.size + 1,1,none⟩=some (.string b.trash)∧W.cell? ⟨w.heap.size + 1,2,none⟩=some (.bool b.reset))) (by kernel_rfl) ?_
 have hb1:=Below.refl w1.heap.size w1
 have hb1d:Below w1.heap.size w1 w1.drew:=hb1.drew
 refine qbv (some 11) (i:=0) (v:=?_) rfl rfl (by kernel_rfl) (by kernel_rfl) (by kernel_rfl) (by kernel_rfl) (fun _ _ _ h=>h) (Or.inl ⟨by rfl,?_⟩) (KS.out _ hb1d) ?_
 rotate_left
 ·(intro W hW;obtain ⟨fz,⟨a0,a1,a2,a3,a4,a5⟩,⟨b0,b1,b2⟩,c0,c1,c2⟩:=hW;go_simp;with_reducible rfl)
 simp only [Act.put,sA,s0,s1]
 refine qbv (some 12) (i:=1) (v:=?_) rfl rfl (by kernel_rfl) (by kernel_rfl) (by kernel_rfl) (by kernel_rfl) (fun _ _ _ h=>h) (Or.inl ⟨by rfl,?_⟩) (KS.out _ hb1d) ?_
 rotate_left
 ·(intro W hW;obtain ⟨fz,⟨a0,a1,a2,a3,a4,a5⟩,⟨b0,b1,b2⟩,c0,c1,c2⟩:=hW;go_simp;with_reducible rfl)
 simp only [Act.put,sA,s0,s1]
 refine qbv (some 13) (i:=2) (v:=?_) rfl rfl (by kernel_rfl) (by kernel_rfl) (by kernel_rfl) (by kernel_rfl) (fun _ _ _ h=>h) (Or.inl ⟨by rfl,?_⟩) (KS.out _ hb1d) ?_
 rotate_left
 ·(intro W hW;obtain ⟨fz,⟨a0,a1,a2,a3,a4,a5⟩,⟨b0,b1,b2⟩,c0,c1,c2⟩:=hW;go_simp;with_reducible rfl)
 simp only [Act.put,sA,s0,s1]
 refine qbv (some 14) (i:=3) (v:=?_) rfl rfl (by kernel_rfl) (by kernel_rfl) (by kernel_rfl) (by kernel_rfl) (fun _ _ _ h=>h) (Or.inl ⟨by rfl,?_⟩) (KS.out _ hb1d) ?_
 rotate_left
 ·(intro W hW;obtain ⟨fz,⟨a0,a1,a2,a3,a4,a5⟩,⟨b0,b1,b2⟩,c0,c1,c2⟩:=hW;go_simp;with_reducible rfl)
 simp only [Act.put,sA,s0,s1]
 refine qbv (some 15) (i:=4) (v:=?_) rfl rfl (by kernel_rfl) (by kernel_rfl) (by kernel_rfl) (by kernel_rfl) (fun _ _ _ h=>h) (Or.inl ⟨by rfl,?_⟩) (KS.out _ hb1d) ?_
 rotate_left
 ·(intro W hW;obtain ⟨fz,⟨a0,a1,a2,a3,a4,a5⟩,⟨b0,b1,b2⟩,c0,c1,c2⟩:=hW;go_simp;with_reducible rfl)
 simp only [Act.put,sA,s0,s1]
 refine qbv (some 16) (i:=5) (v:=?_) rfl rfl (by kernel_rfl) (by kernel_rfl) (by kernel_rfl) (by kernel_rfl) (fun _ _ _ h=>h) (Or.inl ⟨by rfl,?_⟩) (KS.out _ hb1d) ?_
 rotate_left
 ·(intro W hW;obtain ⟨fz,⟨a0,a1,a2,a3,a4,a5⟩,⟨b0,b1,b2⟩,c0,c1,c2⟩:=hW;go_simp;with_reducible rfl)
 simp only [Act.put,sA,s0,s1]
 refine qbv (some 17) (i:=6) (v:=?_) rfl rfl (by kernel_rfl) (by kernel_rfl) (by kernel_rfl) (by kernel_rfl) (fun _ _ _ h=>h) (Or.inl ⟨by rfl,?_⟩) (KS.out _ hb1d) ?_
 rotate_left
 ·(intro W hW;obtain ⟨fz,⟨a0,a1,a2,a3,a4,a5⟩,⟨b0,b1,b2⟩,c0,c1,c2⟩:=hW;go_simp;with_reducible rfl)
 simp only [Act.put,sA,s0,s1]
 refine qbv (some 19) (i:=8) (v:=?_) rfl rfl (by kernel_rfl) (by kernel_rfl) (by kernel_rfl) (by kernel_rfl) (fun _ _ _ h=>h) (Or.inl ⟨by rfl,?_⟩) (KS.out _ hb1d) ?_
 rotate_left
 ·(intro W hW;obtain ⟨fz,⟨a0,a1,a2,a3,a4,a5⟩,⟨b0,b1,b2⟩,c0,c1,c2⟩:=hW;go_simp;with_reducible rfl)
 simp only [Act.put,sA,s0,s1]
 refine qbv (some 20) (i:=9) (v:=?_) rfl rfl (by kernel_rfl) (by kernel_rfl) (by kernel_rfl) (by kernel_rfl) (fun _ _ _ h=>h) (Or.inl ⟨by rfl,?_⟩) (KS.out _ hb1d) ?_
 rotate_left
 ·(intro W hW;obtain ⟨fz,⟨a0,a1,a2,a3,a4,a5⟩,⟨b0,b1,b2⟩,c0,c1,c2⟩:=hW;go_simp;with_reducible rfl)
 simp only [Act.put,sA,s0,s1]
 refine qbv (some 21) (i:=10) (v:=?_) rfl rfl (by kernel_rfl) (by kernel_rfl) (by kernel_rfl) (by kernel_rfl) (fun _ _ _ h=>h) (Or.inl ⟨by rfl,?_⟩) (KS.out _ hb1d) ?_
 rotate_left
 ·(intro W hW;obtain ⟨fz,⟨a0,a1,a2,a3,a4,a5⟩,⟨b0,b1,b2⟩,c0,c1,c2⟩:=hW;go_simp;with_reducible rfl)
 simp only [Act.put,sA,s0,s1]
 refine qbv (some 22) (i:=11) (v:=?_) rfl rfl (by kernel_rfl) (by kernel_rfl) (by kernel_rfl) (by kernel_rfl) (fun _ _ _ h=>h) (Or.inl ⟨by rfl,?_⟩) (KS.out _ hb1d) ?_
 rotate_left
 ·(intro W hW;obtain ⟨fz,⟨a0,a1,a2,a3,a4,a5⟩,⟨b0,b1,b2⟩,c0,c1,c2⟩:=hW;go_simp;with_reducible rfl)
 simp only [Act.put,sA,s0,s1]
 refine qbv (some 23) (i:=12) (v:=?_) rfl rfl (by kernel_rfl) (by kernel_rfl) (by kernel_rfl) (by kernel_rfl) (fun _ _ _ h=>h) (Or.inl ⟨by rfl,?_⟩) (KS.out _ hb1d) ?_
 rotate_left
 ·(intro W hW;obtain ⟨fz,⟨a0,a1,a2,a3,a4,a5⟩,⟨b0,b1,b2⟩,c0,c1,c2⟩:=hW;go_simp;with_reducible rfl)
 simp only [Act.put,sA,s0,s1]
 refine qbv (some 24) (i:=13) (v:=?_) rfl rfl (by kernel_rfl) (by kernel_rfl) (by kernel_rfl) (by kernel_rfl) (fun _ _ _ h=>h) (Or.inl ⟨by rfl,?_⟩) (KS.out _ hb1d) ?_
 rotate_left
 ·(intro W hW;obtain ⟨fz,⟨a0,a1,a2,a3,a4,a5⟩,⟨b0,b1,b2⟩,c0,c1,c2⟩:=hW;go_simp;with_reducible rfl)
 simp only [Act.put,sA,s0,s1]
 refine qbn (rs:=[7]) (by kernel_rfl) (by simp) (AllReadyT.cons rfl (fun K hK=>?_) AllReadyT.nil)
 go_simp
 refine (HL0.out _).mono ?_
 rintro e w2 ⟨rfl,hb2⟩
 have HB2:=hI (qad hb1d hb2)
 clear hb2 HL0
 refine hK.out _ _ (KS.out _ HB2.out) (fun _=>?_)
 clear hK K
 refine qbn (rs:=[14]) (by kernel_rfl) (by simp) (AllReadyT.cons rfl (fun K hK=>?_) AllReadyT.nil)
 go_simp
 refine (HL1.out _).mono ?_
 rintro e w3 ⟨rfl,hb3⟩
 have HB3:=hI (qad HB2.out hb3)
 clear hb3 HL1
 refine hK.out _ _ (KS.out _ HB3.out) (fun _=>?_)
 clear hK K
 refine qbv (some 26) (i:=15) (v:=?_) rfl rfl (by kernel_rfl) (by kernel_rfl) (by kernel_rfl) (by kernel_rfl) (fun _ _ _ h=>h) (Or.inl ⟨by rfl,?_⟩) (KS.out _ HB3.out) ?_
 rotate_left
 ·(intro W hW;obtain ⟨fz,⟨a0,a1,a2,a3,a4,a5⟩,⟨b0,b1,b2⟩,c0,c1,c2⟩:=hW;go_simp;with_reducible rfl)
 simp only [Act.put,sA,s0,s1]
 refine qbv (some 27) (i:=16) (v:=?_) rfl rfl (by kernel_rfl) (by kernel_rfl) (by kernel_rfl) (by kernel_rfl) (fun _ _ _ h=>h) (Or.inl ⟨by rfl,?_⟩) (KS.out _ HB3.out) ?_
 rotate_left
 ·(intro W hW;obtain ⟨fz,⟨a0,a1,a2,a3,a4,a5⟩,⟨b0,b1,b2⟩,c0,c1,c2⟩:=hW;go_simp;with_reducible rfl)
 simp only [Act.put,sA,s0,s1]
 refine qbv (some 28) (i:=17) (v:=?_) rfl rfl (by kernel_rfl) (by kernel_rfl) (by kernel_rfl) (by kernel_rfl) (fun _ _ _ h=>h) (Or.inl ⟨by rfl,?_⟩) (KS.out _ HB3.out) ?_
 rotate_left
 ·(intro W hW;obtain ⟨fz,⟨a0,a1,a2,a3,a4,a5⟩,⟨b0,b1,b2⟩,c0,c1,c2⟩:=hW;go_simp;with_reducible rfl)
 simp only [Act.put,sA,s0,s1]
 obtain ⟨fx,⟨g0,g1,g2,g3,g4,g5⟩,-,-⟩:=KS.out w3 HB3.out
 have x0:=fx 0
 have x1:=fx 1
 have x2:=fx 2
 have x3:=fx 3
 have x4:=fx 4
 have x5:=fx 5
 have x8:=fx 8
 have x9:=fx 9
 obtain ⟨-,-,-,-,-,-,-,-,g8,g9⟩:=(H0.out.below HB3.out).cells
 refine qbn (rs:=[18]) (by kernel_rfl) (by simp) (AllReadyT.last rfl (by kernel_rfl) (fun K hK=>?_))
 go_simp
 refine hK.out _ _ ?_
 clear hK K
 refine qgz (by kernel_rfl) ?_ _
 go_wp2
 go_ret
 exact ⟨rfl,set6 (H0.out.below HB3.out) x y,but6 (HB0.out.trans (But.of HB3.out)) _ _ _ _ _ _ _ _⟩
end Go.Proofs.YtjkecckndfcbjaaGreatDoor
namespace Go.Proofs.YtjkecckndfcbjaaGreatDoor
open Nb Crc
set_option maxRecDepth 100000
theorem qhq {d:DK} (h:d.ok) (f:Int):(qbf d f).1.ok∧(qbf d f).1.ops≤d.ops + 1∧(qbf d f).1.room=d.room:=by
 unfold qbf
 split
 ·exact ⟨h,Nat.le_succ _,rfl⟩
 ·refine ⟨resetD_ok h _,?_,?_⟩ <;> (unfold qby;split) <;> simp only [qge,qny,qne,qcz,Nat.le_refl]
theorem qns {d:DK} (h:d.ok) (f:Int):(qca d f).1.ok∧(qca d f).1.ops≤d.ops + 1∧(qca d f).1.room=d.room:=by
 unfold qca
 split
 ·exact ⟨h,Nat.le_succ _,rfl⟩
 ·refine ⟨syncD_ok h _,?_,?_⟩ <;> (unfold qfq;split) <;> simp only [qge,qny,qne,qcz,Nat.le_refl]
theorem qku {d:DK} (h:d.ok) (f:Int) (s:ByteArray):(appQ d f s).1.ok∧(appQ d f s).1.ops≤d.ops + 1∧(appQ d f s).1.room=d.room:=by
 unfold appQ
 split
 ·exact ⟨h,Nat.le_succ _,rfl⟩
 split
 ·exact ⟨h,Nat.le_succ _,rfl⟩
 ·rename_i h1 h2
  refine ⟨appD_ok h _ _ (by omega),?_,?_⟩ <;> unfold appD <;> simp only [qge,qny,qne,qcz,Nat.le_refl]
def layM (l:LG) (ep:Nat) (bs:ByteArray) (k:Nat):LG×Nat :=
 if (qbf l.d (1 - l.file:Int)).2≠0 then shutG l (qbf l.d (1 - l.file:Int)).1 (qbf l.d (1 - l.file:Int)).2 else
 if (appQ (qbf l.d (1 - l.file:Int)).1 (1 - l.file:Int) bs).2≠0 then shutG l (appQ (qbf l.d (1 - l.file:Int)).1 (1 - l.file:Int) bs).1 (appQ (qbf l.d (1 - l.file:Int)).1 (1 - l.file:Int) bs).2 else
 if (qca (appQ (qbf l.d (1 - l.file:Int)).1 (1 - l.file:Int) bs).1 (1 - l.file:Int)).2≠0 then shutG l (qca (appQ (qbf l.d (1 - l.file:Int)).1 (1 - l.file:Int) bs).1 (1 - l.file:Int)).1 (qca (appQ (qbf l.d (1 - l.file:Int)).1 (1 - l.file:Int) bs).1 (1 - l.file:Int)).2 else
 (⟨(qca (appQ (qbf l.d (1 - l.file:Int)).1 (1 - l.file:Int) bs).1 (1 - l.file:Int)).1,1 - l.file,ep,k,l.shut⟩,0)
theorem qlp {d:DK} {f:Nat} (hf:f=0∨f=1):d.up (f:Int)=if d.dead then 20 else 0:=by
 unfold DK.up
 split
 ·rfl
 ·rw [if_neg (by omega)]
theorem qsj {d:DK} {f:Nat} (h:d.dead=false) (ho:d.off=false):(qby d f).dead=false:=by unfold qby;rw [if_neg (by rw [ho];simp),qus,goes_on ho,h]
theorem appD_dead {d:DK} {f:Nat} {s:ByteArray} (h:d.dead=false) (ho:d.off=false):(appD d f s).dead=false:=by unfold appD;rw [qus,goes_on ho,h]
theorem layG_eq (l:LG) (hf:l.file=0∨l.file=1) (ep:Nat) (bs:ByteArray) (k:Nat):layG l ep bs k=layM l ep bs k:=by
 have hz:(1 - (l.file:Int))=((1 - l.file:Nat):Int):=by rcases hf with h | h <;> rw [h] <;> rfl
 have hf2:(1 - l.file:Nat)=0∨(1 - l.file:Nat)=1:=by rcases hf with h | h <;> rw [h] <;> simp
 unfold layM layG
 rw [hz]
 generalize (1 - l.file:Nat)=f at hf2 ⊢
 have ht:((f:Nat):Int).toNat=f:=by omega
 by_cases hd:l.d.dead=true
 ·have e1:qbf l.d (f:Int)=(l.d,20):=by unfold qbf;rw [qlp hf2,hd];rfl
  rw [if_pos hd,e1,if_pos (show (20:Nat)≠0 by decide)]
 have hd':l.d.dead=false:=by simpa using hd
 have e1:qbf l.d (f:Int)=(qby l.d f,offC l.d):=by unfold qbf;rw [qlp hf2,hd',ht];rfl
 rw [if_neg hd,e1]
 by_cases ho:l.d.off=true
 ·have e2:offC l.d=20:=by unfold offC;rw [if_pos ho]
  rw [if_pos ho,e2,if_pos (show (20:Nat)≠0 by decide)]
 have ho':l.d.off=false:=by simpa using ho
 have e2:offC l.d=0:=by unfold offC;rw [if_neg ho]
 have hd1:=qsj (f:=f) hd' ho'
 rw [if_neg ho,e2,if_neg (show ¬ (0:Nat)≠0 by decide)]
 generalize qby l.d f=x at hd1 ⊢
 simp only
 by_cases hfit:x.room < x.f0.s.size + x.f1.s.size + bs.size
 ·have e3:appQ x (f:Int) bs=(x,22):=by unfold appQ;rw [qlp hf2,hd1,if_neg (by decide),if_pos hfit]
  rw [if_pos hfit,e3,if_pos (show (22:Nat)≠0 by decide)]
 have e3:appQ x (f:Int) bs=(appD x f bs,offC x):=by unfold appQ;rw [qlp hf2,hd1,if_neg (by decide),if_neg hfit,ht]
 rw [if_neg hfit,e3]
 by_cases ho2:x.off=true
 ·have e4:offC x=20:=by unfold offC;rw [if_pos ho2]
  rw [if_pos ho2,e4,if_pos (show (20:Nat)≠0 by decide)]
 have ho2':x.off=false:=by simpa using ho2
 have e4:offC x=0:=by unfold offC;rw [if_neg ho2]
 have hd2:=appD_dead (f:=f) (s:=bs) hd1 ho2'
 rw [if_neg ho2,e4,if_neg (show ¬ (0:Nat)≠0 by decide)]
 generalize appD x f bs=y at hd2 ⊢
 simp only
 have e5:qca y (f:Int)=(qfq y f,offC y):=by unfold qca;rw [qlp hf2,hd2,ht];rfl
 rw [e5]
 by_cases ho3:y.off=true
 ·have e6:offC y=20:=by unfold offC;rw [if_pos ho3]
  rw [if_pos ho3,e6,if_pos (show (20:Nat)≠0 by decide)]
 ·have e6:offC y=0:=by unfold offC;rw [if_neg ho3]
  rw [if_neg ho3,e6,if_neg (show ¬ (0:Nat)≠0 by decide)]
def addM (l:LG) (e:EV):LG×Nat :=
 if l.shut then (l,20) else if 1000000≤l.sq then (l,9) else if recC (evR l.ep (l.sq + 1) e)≠0 then (l,2) else
 if (appQ l.d (l.file:Int) ⟨(qak (recB (evR l.ep (l.sq + 1) e))).toArray⟩).2≠0 then shutG l (appQ l.d (l.file:Int) ⟨(qak (recB (evR l.ep (l.sq + 1) e))).toArray⟩).1 (appQ l.d (l.file:Int) ⟨(qak (recB (evR l.ep (l.sq + 1) e))).toArray⟩).2 else
 (⟨(appQ l.d (l.file:Int) ⟨(qak (recB (evR l.ep (l.sq + 1) e))).toArray⟩).1,l.file,l.ep,l.sq + 1,l.shut⟩,0)
theorem shutG_22 (l:LG):shutG l l.d 22=(l,22):=by unfold shutG;simp
theorem qsk (l:LG) (hf:l.file=0∨l.file=1) (e:EV):addG l e=addM l e:=by
 unfold addM addG
 by_cases h1:l.shut=true
 ·rw [if_pos h1,if_pos h1]
 rw [if_neg h1,if_neg h1]
 by_cases h2:1000000≤l.sq
 ·rw [if_pos h2,if_pos h2]
 rw [if_neg h2,if_neg h2]
 by_cases h3:recC (evR l.ep (l.sq + 1) e)≠0
 ·rw [if_pos h3,if_pos h3]
 rw [if_neg h3,if_neg h3]
 generalize hx:(qak (recB (evR l.ep (l.sq + 1) e)))=x
 have hz:(⟨x.toArray⟩:ByteArray).size=x.length:=qje x
 have ht:((l.file:Nat):Int).toNat=l.file:=by omega
 by_cases hd:l.d.dead=true
 ·have e1:appQ l.d (l.file:Int) ⟨x.toArray⟩=(l.d,20):=by unfold appQ;rw [qlp hf,hd];rfl
  rw [if_pos hd,e1,if_pos (show (20:Nat)≠0 by decide)]
 have hd':l.d.dead=false:=by simpa using hd
 rw [if_neg hd]
 by_cases hfit:l.d.room < l.d.f0.s.size + l.d.f1.s.size + x.length
 ·have e3:appQ l.d (l.file:Int) ⟨x.toArray⟩=(l.d,22):=by unfold appQ;rw [qlp hf,hd',if_neg (by decide),hz,if_pos hfit]
  rw [if_pos hfit,e3,if_pos (show (22:Nat)≠0 by decide)]
  exact (shutG_22 l).symm
 have e3:appQ l.d (l.file:Int) ⟨x.toArray⟩=(appD l.d l.file ⟨x.toArray⟩,offC l.d):=by unfold appQ;rw [qlp hf,hd',if_neg (by decide),hz,if_neg hfit,ht]
 rw [if_neg hfit,e3]
 by_cases ho:l.d.off=true
 ·have e4:offC l.d=20:=by unfold offC;rw [if_pos ho]
  rw [if_pos ho,e4,if_pos (show (20:Nat)≠0 by decide)]
 ·have e4:offC l.d=0:=by unfold offC;rw [if_neg ho]
  rw [if_neg ho,e4,if_neg (show ¬ (0:Nat)≠0 by decide)]
theorem qnt (l:LG) (hf:l.file=0∨l.file=1):qiw l=if l.shut then (l,20) else shutG l (qca l.d (l.file:Int)).1 (qca l.d (l.file:Int)).2:=by
 unfold qiw
 by_cases h1:l.shut=true
 ·rw [if_pos h1,if_pos h1]
 rw [if_neg h1,if_neg h1]
 have ht:((l.file:Nat):Int).toNat=l.file:=by omega
 by_cases hd:l.d.dead=true
 ·have e1:qca l.d (l.file:Int)=(l.d,20):=by unfold qca;rw [qlp hf,hd];rfl
  rw [if_pos hd,e1]
 ·have hd':l.d.dead=false:=by simpa using hd
  have e1:qca l.d (l.file:Int)=(qfq l.d l.file,offC l.d):=by unfold qca;rw [qlp hf,hd',ht];rfl
  rw [if_neg hd,e1]
theorem evsC_at {ep:Nat}:∀ (l:List EV) (i k:Nat),evsC ep i l=0→(hk:k < l.length)→recC (evR ep (i + k) l[k])=0
 | [],_,_,_,hk=>absurd hk (Nat.not_lt_zero _)
 | e :: l,i,0,h,_=>(qfk h).1
 | e :: l,i,k + 1,h,hk=>by
   have:=evsC_at l (i + 1) k (qfk h).2 (by simpa using hk)
   rw [show i + (k + 1)=i + 1 + k by omega]
   exact this
theorem qmj {ep:Nat} {st:ByteArray} {l:List EV} {k:Nat} (hk:k < l.length) (h:recC (evR ep (k + 1) l[k])≠0):ptC ep st l≠0:=fun h0=>by
 have:=evsC_at l 1 k (qqh h0).2 hk
 rw [Nat.add_comm] at this
 exact h this
theorem qmk {ep:Nat} {st:ByteArray} {l:List EV} (h:recC (snR ep st)≠0):ptC ep st l≠0:=by unfold ptC;rw [if_pos h];decide
theorem qkv {ep:Nat} {st:ByteArray} {l:List EV} {k:Nat} (hk:k < l.length) (h:ptC ep st (l.take k)=0) (h1:recC (evR ep (k + 1) l[k])=0):ptC ep st (l.take (k + 1))=0:=by
 rw [List.take_succ_eq_append_getElem hk]
 exact ptC_snoc h (by rw [List.length_take,Nat.min_eq_left (Nat.le_of_lt hk)];exact h1)
theorem quj {ep:Nat} {st:ByteArray} {l:List EV} {k:Nat} (hk:k < l.length):ptF ep st (l.take (k + 1))=ptF ep st (l.take k) ++ qak (recB (evR ep (k + 1) l[k])):=by
 rw [List.take_succ_eq_append_getElem hk,ptF_snoc,List.length_take,Nat.min_eq_left (Nat.le_of_lt hk)]
theorem qjq {l:LG} {ep:Nat} {st:ByteArray} {evs:List EV} (h:ptC ep st evs≠0):layP l ep st evs=(l,2):=by unfold layP;rw [if_pos h]
theorem qsl {l:LG} (hf:l.file=0∨l.file=1) {ep:Nat} {st:ByteArray} {evs:List EV} (h:ptC ep st evs=0):layP l ep st evs=layM l ep (ptA ep st evs) evs.length:=by unfold layP;rw [if_neg (by rw [h];simp),layG_eq l hf]
theorem quk (ep:Nat) (st:ByteArray) (h:recC (snR ep st)=0):ptC ep st []=0:=by unfold ptC;rw [if_neg (by rw [h];simp)];rfl
end Go.Proofs.YtjkecckndfcbjaaGreatDoor
namespace Go.Proofs.YtjkecckndfcbjaaGreatDoor
theorem qkw {a b:ByteArray} (h:a.data=b.data):a=b:=ByteArray.ext h
theorem qkx (s:ByteArray):s.extract 0 s.size=s:=qkw (by simp)
theorem qjr (s:ByteArray):s.extract s.size s.size=⟨#[]⟩:=qkw (by simp)
theorem qjs (s:ByteArray) (k:Nat) (h:k≤s.size):s.extract 0 k ++ s.extract k s.size=s:=qkw (by
 have h':k≤s.data.size:=h
 have e:s.size=s.data.size:=rfl
 rw [ByteArray.data_append,ByteArray.data_extract,ByteArray.data_extract,e,Array.extract_append_extract]
 simp
 exact Or.inr (Nat.le_max_right _ _))
theorem qul (s t:ByteArray) (k:Nat) (h:k≤s.size):(s ++ t).extract 0 k=s.extract 0 k:=qkw (by
 have h':k≤s.data.size:=h
 rw [ByteArray.data_extract,ByteArray.data_extract,ByteArray.data_append,Array.extract_append]
 simp
 exact Or.inl (by omega))
theorem qum (s t:ByteArray) (k:Nat) (h:k≤s.size):(s ++ t).extract k (s ++ t).size=s.extract k s.size ++ t:=qkw (by
 have h':k≤s.data.size:=h
 have e:(s ++ t).size=s.data.size + t.data.size:=by simp
 have e2:s.size=s.data.size:=rfl
 rw [ByteArray.data_extract,ByteArray.data_append,ByteArray.data_append,ByteArray.data_extract,Array.extract_append,e,e2]
 have h1:k - s.data.size=0:=by omega
 have h2:s.data.size + t.data.size - s.data.size=t.data.size:=by omega
 rw [h1,h2]
 congr 1
 ·apply Array.ext <;> simp
 ·simp)
def rdOf (d:DK):RD:=⟨d.f0.s.extract 0 d.f0.safe,d.f1.s.extract 0 d.f1.safe,d.f0.s.extract d.f0.safe d.f0.s.size,d.f1.s.extract d.f1.safe d.f1.s.size,d.f0.half,d.f1.half,d.room,d.ops,d.arm,d.dead⟩
theorem qhr (d:DK):(rdOf d).goes=rdOf d.goes:=by
 unfold RD.goes DK.goes
 by_cases h:d.arm=1
 ·rw [if_pos (show (rdOf d).arm=1 from h),if_pos h];rfl
 ·rw [if_neg (show ¬ (rdOf d).arm=1 from h),if_neg h];rfl
theorem qun (d:DK):(rdOf d).off=d.off:=rfl
theorem qnu (d:DK) (f:Int):(rdOf d).up f=d.up f:=rfl
theorem quo {d:DK} (h:d.ok):(rdOf d).tot=d.f0.s.size + d.f1.s.size:=by
 have h1:=h.a
 have h2:=h.b
 have h1':d.f0.safe≤d.f0.s.data.size:=h1
 have h2':d.f1.safe≤d.f1.s.data.size:=h2
 have e1:d.f0.s.size=d.f0.s.data.size:=rfl
 have e2:d.f1.s.size=d.f1.s.data.size:=rfl
 unfold RD.tot rdOf
 simp only [ByteArray.size_extract]
 omega
theorem qen {d:DK} (h:d.ok) (ho:d.ops≤1000000000):(rdOf d).ok:=⟨by rw [quo h];exact h.fit,h.room,ho,h.arm⟩
theorem rdOf_app {d:DK} (h:d.ok) (f:Nat) (s:ByteArray):(rdOf d).app f s=rdOf (appD d f s):=by
 have h1:=h.a
 have h2:=h.b
 unfold RD.app appD DK.put DK.get
 by_cases h0:f=0
 ·rw [if_pos h0,if_pos h0,if_pos h0,qhr]
  unfold rdOf
  simp only [qdm,qdn,qul _ _ _ h1,qum _ _ _ h1]
 ·rw [if_neg h0,if_neg h0,if_neg h0,qhr]
  unfold rdOf
  simp only [qdm,qdn,qul _ _ _ h2,qum _ _ _ h2]
theorem rdOf_sync {d:DK} (h:d.ok) (f:Nat):(rdOf d).sync f=rdOf (qfq d f):=by
 have h1:=h.a
 have h2:=h.b
 unfold RD.sync qfq
 rw [qun,qhr]
 by_cases hx:d.off=true
 ·rw [if_pos hx,if_pos hx]
 ·rw [if_neg hx,if_neg hx]
  unfold DK.put DK.get
  by_cases h0:f=0
  ·simp only [if_pos h0]
   unfold rdOf
   simp only [qdm,qdn,qjs _ _ h1,qkx,qjr]
  ·simp only [if_neg h0]
   unfold rdOf
   simp only [qdm,qdn,qjs _ _ h2,qkx,qjr]
theorem qxc (d:DK) (f:Nat):(rdOf d).reset f=rdOf (qby d f):=by
 unfold RD.reset qby
 rw [qun,qhr]
 by_cases hx:d.off=true
 ·rw [if_pos hx,if_pos hx]
  unfold DK.put DK.get
  by_cases h0:f=0
  ·simp only [if_pos h0];unfold rdOf;simp only [qdm,qdn]
  ·simp only [if_neg h0];unfold rdOf;simp only [qdm,qdn]
 ·rw [if_neg hx,if_neg hx]
  unfold DK.put
  by_cases h0:f=0
  ·simp only [if_pos h0];unfold rdOf zF;simp only [qdn];rfl
  ·simp only [if_neg h0];unfold rdOf zF;simp only [qdm];rfl
theorem qnv {d:DK} (h:d.ok) (f:Int) (s:ByteArray):qnp (rdOf d) f s=(rdOf (appQ d f s).1,(appQ d f s).2):=by
 unfold qnp appQ
 rw [qnu,quo h]
 by_cases h0:d.up f≠0
 ·rw [if_pos h0,if_pos h0]
 ·rw [if_neg h0,if_neg h0]
  by_cases h1:d.room < d.f0.s.size + d.f1.s.size + s.size
  ·rw [if_pos (show (rdOf d).room < _ from h1),if_pos h1]
  ·rw [if_neg (show ¬ (rdOf d).room < _ from h1),if_neg h1,rdOf_app h]
   rfl
theorem qky {d:DK} (h:d.ok) (f:Int):qkp (rdOf d) f=(rdOf (qca d f).1,(qca d f).2):=by
 unfold qkp qca
 rw [qnu]
 by_cases h0:d.up f≠0
 ·rw [if_pos h0,if_pos h0]
 ·rw [if_neg h0,if_neg h0,rdOf_sync h]
  rfl
theorem qml (d:DK) (f:Int):qhd (rdOf d) f=(rdOf (qbf d f).1,(qbf d f).2):=by
 unfold qhd qbf
 rw [qnu]
 by_cases h0:d.up f≠0
 ·rw [if_pos h0,if_pos h0]
 ·rw [if_neg h0,if_neg h0,qxc]
  rfl
theorem qfj {d:DK} (h:d.ok) (f:Int):qgf (rdOf d) f=qcu d f:=by
 unfold qgf qcu
 rw [qnu]
 by_cases h0:d.up f≠0
 ·rw [if_pos h0,if_pos h0]
 ·rw [if_neg h0,if_neg h0]
  have hu:d.up f=0:=by omega
  unfold DK.up at hu
  split at hu
  ·cases hu
  ·split at hu
   ·cases hu
   ·rename_i h1
    unfold DK.get
    by_cases h2:f=0
    ·subst h2
     rw [if_pos rfl]
     show ((rdOf d).a ++ (rdOf d).c,0)=(d.f0.s,0)
     unfold rdOf
     simp only [qjs _ _ h.a]
    ·rw [if_neg h2,if_neg (by omega)]
     unfold rdOf
     simp only [qjs _ _ h.b]
end Go.Proofs.YtjkecckndfcbjaaGreatDoor
namespace Go.Proofs.YtjkecckndfcbjaaGreatDoor
open Nb Crc
set_option maxRecDepth 100000
structure AC where
 k:Int
 e:EV
 tx:ByteArray
 ok:Int
 n:Int
 ot:ByteArray
 a:CH
 b:CH
instance:Inhabited AC:=⟨⟨0,(0,⟨#[]⟩),⟨#[]⟩,0,0,⟨#[]⟩,⟨0,⟨#[]⟩,false⟩,⟨0,⟨#[]⟩,false⟩⟩⟩
structure LV (o:Nat) (l:LG):Prop where
 ok:l.d.ok
 file:l.file=0∨l.file=1
 ep:l.ep≤1000000
 sq:l.sq≤1000000
 ops:l.d.ops≤o
theorem LV.more {o o':Nat} {l:LG} (h:LV o l) (ho:o≤o'):LV o' l:=⟨h.ok,h.file,h.ep,h.sq,Nat.le_trans h.ops ho⟩
theorem LV.disk {o o':Nat} {l:LG} (h:LV o l) {d:DK} (hd:d.ok) (ho:d.ops≤o'):LV o' { l with d:=d }:=⟨hd,h.file,h.ep,h.sq,ho⟩
theorem LV.shutG {o o':Nat} {l:LG} (h:LV o l) {d:DK} (hd:d.ok) (ho:d.ops≤o') (e:Nat):LV o' (shutG l d e).1:=⟨hd,h.file,h.ep,h.sq,ho⟩
theorem layM_lv {o:Nat} {l:LG} (h:LV o l) {ep:Nat} (hep:ep≤1000000) (bs:ByteArray) {k:Nat} (hk:k≤1000000):LV (o + 3) (layM l ep bs k).1:=by
 have ho:=h.ops
 obtain ⟨k1,o1,-⟩:=qhq h.ok (1 - l.file:Int)
 unfold layM
 generalize qbf l.d (1 - l.file:Int)=q1 at k1 o1 ⊢
 obtain ⟨k2,o2,-⟩:=qku k1 (1 - l.file:Int) bs
 generalize appQ q1.1 (1 - l.file:Int) bs=q2 at k2 o2 ⊢
 obtain ⟨k3,o3,-⟩:=qns k2 (1 - l.file:Int)
 generalize qca q2.1 (1 - l.file:Int)=q3 at k3 o3 ⊢
 split
 ·exact h.shutG k1 (by omega) _
 split
 ·exact h.shutG k2 (by omega) _
 split
 ·exact h.shutG k3 (by omega) _
 ·exact ⟨k3,by show 1 - l.file=0∨1 - l.file=1;have:=h.file;omega,hep,hk,by show q3.1.ops≤_;omega⟩
theorem qsm {o:Nat} {l:LG} (h:LV o l) {ep:Nat} (hep:ep≤1000000) (st:ByteArray) {evs:List EV} (hk:evs.length≤1000000):LV (o + 3) (layP l ep st evs).1:=by
 by_cases h0:ptC ep st evs=0
 ·rw [qsl h.file h0]
  exact layM_lv h hep _ hk
 ·rw [qjq h0]
  exact h.more (Nat.le_add_right _ _)
theorem actG_lv {o:Nat} {l:LG} (h:LV o l) (k:Int) (e:EV) (tx:ByteArray):LV (o + 3) (actG l k e tx).1:=by
 have ho:=h.ops
 have h3:=h.more (Nat.le_add_right o 3)
 unfold actG
 split
 ·rw [qsk l h.file]
  obtain ⟨k2,o2,-⟩:=qku h.ok (l.file:Int) ⟨(qak (recB (evR l.ep (l.sq + 1) e))).toArray⟩
  unfold addM
  generalize appQ l.d (l.file:Int) ⟨(qak (recB (evR l.ep (l.sq + 1) e))).toArray⟩=q at k2 o2 ⊢
  split
  ·exact h3
  split
  ·exact h3
  rename_i h9
  split
  ·exact h3
  split
  ·exact h.shutG k2 (by omega) _
  ·exact ⟨k2,h.file,h.ep,by show l.sq + 1≤_;omega,by show q.1.ops≤_;omega⟩
 split
 ·rw [qnt l h.file]
  obtain ⟨k2,o2,-⟩:=qns h.ok (l.file:Int)
  split
  ·exact h3
  ·exact h.shutG k2 (by omega) _
 ·unfold qdt
  split
  ·exact h3
  split
  ·exact h3
  ·exact qsm h (by omega) tx (by simp)
end Go.Proofs.YtjkecckndfcbjaaGreatDoor
