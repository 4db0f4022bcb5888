/- Texts that the law leans on. -/
import Derived.Deep.RegionHeld3
import Derived.Deep.DrawnRows
import Derived.Test.YtjkecckndfcbjaaGreatDoorPRowA
import Derived.Test.YtjkecckndfcbjaaGreatDoorPErrA
import Derived.Test.YtjkecckndfcbjaaGreatDoorPRdr
namespace Go.Proofs.YtjkecckndfcbjaaGreatDoor
open Go.RowKit Nb
def inV (s:ByteArray) (r:RS) (pc:ByteArray):Value:=.agg #[.string s,.int .i64 (r.pos:Int),.string pc,.int .i64 (r.e:Int)]
theorem bcell {W w1:World} (hb:Below W.heap.size W w1):(∀ b o,b < W.heap.size→w1.cell? ⟨b,o,none⟩=W.cell? ⟨b,o,none⟩)∧(∀ b o,b < W.heap.size→w1.frozen? ⟨b,o,none⟩=W.frozen? ⟨b,o,none⟩) :=
 ⟨fun b o h=>hb.cell (p:=⟨b,o,none⟩) h,fun b o h=>hb.frozen (p:=⟨b,o,none⟩) h⟩
theorem qcr (s pc piece:ByteArray) (p e0 to e:Int) (w:World) (he:e≠0) :
 Calls Tryz.prog 137 #[.agg #[.string s,.int .i64 p,.string pc,.int .i64 e0],.string piece,.int .i64 to,.int .i64 e] w fun ev w'=>ev=.returned (.agg #[.string s,.int .i64 p,.string piece,.int .i64 e]) ∧
  w'=(w.alloc (.cells #[.string s,.int .i64 p,.string piece,.int .i64 e] 175)).alloc (.cells #[.string s,.int .i64 p,.string piece,.int .i64 e] 175):=by
 have he0:(e != 0)=true:=by simpa using he
 clear he
 go_enter Tryz.func137,Tryz.ntmps137
 go_wp2
 exact bodyPost_ret (v:=.agg #[.string s,.int .i64 p,.string piece,.int .i64 e]) (by simp [results,Tryz.results137,go_sem]) rfl ⟨rfl,rfl⟩
theorem qfs (s pc piece:ByteArray) (p e0 to:Int) (w:World) :
 Calls Tryz.prog 137 #[.agg #[.string s,.int .i64 p,.string pc,.int .i64 e0],.string piece,.int .i64 to,.int .i64 0] w fun ev w'=>ev=.returned (.agg #[.string s,.int .i64 to,.string pc,.int .i64 e0]) ∧
  w'=(w.alloc (.cells #[.string s,.int .i64 to,.string pc,.int .i64 e0] 175)).alloc (.cells #[.string s,.int .i64 to,.string pc,.int .i64 e0] 175):=by
 go_enter Tryz.func137,Tryz.ntmps137
 go_wp2
 exact bodyPost_ret (v:=.agg #[.string s,.int .i64 to,.string pc,.int .i64 e0]) (by simp [results,Tryz.results137,go_sem]) rfl ⟨rfl,rfl⟩
def InP (s:ByteArray) (r:RS×Nat) (w:World) (e:Ending) (w':World):Prop:=Below w.heap.size w w'∧∃ pc,e=.returned (.tuple #[inV s r.1 pc,.int .i64 (r.2:Int)])
set_option maxRecDepth 100000 in
set_option maxHeartbeats 1000000 in
theorem qnl (s pc:ByteArray) (r:RS) (most:Nat) (w:World) (hp:r.pos≤s.size) (hs:s.size≤1000000) :
 Calls Tryz.prog 106 #[inV s r pc,.int .i64 most] w fun e w'=>InP s (numR s.data.toList most r) w e w':=by
 unfold inV
 by_cases he:r.e=0
 ·have e0:(r.e:Int)=0:=by omega
  rw [e0]
  cases hgl:getL (s.data.toList.drop r.pos) with
  | no c =>
    have HGE:=hI (fun W=>qoi s r.pos c W hp hs hgl)
    have hc:=qdg hgl
    have hc0:((c:Int) == 0)=false:=by simp;omega
    have hc1:((c:Int) != 0)=true:=by simp;omega
    have HC1:Hid ((c:Int)≠0):=by show _≠_;omega
    have HNR:=hI (numR_no (most:=most) he hgl)
    clear hgl hc he e0
    go_enter Tryz.func106,Tryz.ntmps106
    go_wp2_with (first | (go_at_call 120;refine (HGE.out _).mono ?_;rintro e w' ⟨rfl,rfl⟩) | (go_at_call 137;refine (qcr _ _ _ _ _ _ _ _ HC1.out).mono ?_;rintro e w' ⟨rfl,rfl⟩))
    rw [HNR.out]
    refine bodyPost_ret (v:=.tuple #[inV s ⟨r.pos,c⟩ ⟨#[110,117,109]⟩,.int .i64 0]) (by simp [results,Tryz.results106,go_sem,inV]) rfl ⟨?_,_,rfl⟩
    exact qab (qab (qab (bel1 w _) _) _) _
  | ok n k =>
    have HGE:=hI (fun W=>qoh s r.pos n k W hp hs hgl)
    by_cases hbig:most < n
    ·have HNR:=hI (qtc he hgl hbig)
     have HM:Hid (∀ (s pc piece:ByteArray) (p e0 to:Int) (W:World),Calls Tryz.prog 137 #[.agg #[.string s,.int .i64 p,.string pc,.int .i64 e0],.string piece,.int .i64 to,.int .i64 3] W fun ev w'=>ev=.returned (.agg #[.string s,.int .i64 p,.string piece,.int .i64 3])∧w'=(W.alloc (.cells #[.string s,.int .i64 p,.string piece,.int .i64 3] 175)).alloc (.cells #[.string s,.int .i64 p,.string piece,.int .i64 3] 175)):=fun s pc piece p e0 to W=>qcr s pc piece p e0 to 3 W (by omega)
     clear hgl he e0
     go_enter Tryz.func106,Tryz.ntmps106
     go_wp2_with (first | (go_at_call 120;refine (HGE.out _).mono ?_;rintro e w' ⟨rfl,rfl⟩) | (go_at_call 137;refine (HM.out _ _ _ _ _ _ _).mono ?_;rintro e w' ⟨rfl,rfl⟩))
     rw [HNR.out]
     refine bodyPost_ret (v:=.tuple #[inV s ⟨r.pos,3⟩ ⟨#[110,117,109]⟩,.int .i64 0]) (by simp [results,Tryz.results106,go_sem,inV]) rfl ⟨?_,_,rfl⟩
     exact qab (qab (qab (bel1 w _) _) _) _
    ·have HNR:=hI (qtd he hgl hbig)
     have hb4:decide (most < n)=false:=by simp;omega
     clear hgl he e0 hbig
     go_enter Tryz.func106,Tryz.ntmps106
     go_wp2_with (first | (go_at_call 120;refine (HGE.out _).mono ?_;rintro e w' ⟨rfl,rfl⟩) | (go_at_call 137;refine (qfs _ _ _ _ _ _ _).mono ?_;rintro e w' ⟨rfl,rfl⟩))
     rw [HNR.out]
     refine bodyPost_ret (v:=.tuple #[inV s ⟨r.pos + k,0⟩ pc,.int .i64 n]) (by simp [results,Tryz.results106,go_sem,inV]) rfl ⟨?_,_,rfl⟩
     exact qab (qab (qab (bel1 w _) _) _) _
 ·have HNR:Hid (numR s.data.toList most r=(r,0)):=qtg he
  have e0:((r.e:Int) != 0)=true:=by simpa using he
  clear he
  go_enter Tryz.func106,Tryz.ntmps106
  go_wp2
  rw [HNR.out]
  refine bodyPost_ret (v:=.tuple #[inV s r pc,.int .i64 0]) (by simp [results,Tryz.results106,go_sem,inV]) rfl ⟨?_,_,rfl⟩
  exact qab (bel1 w _) _
end Go.Proofs.YtjkecckndfcbjaaGreatDoor
namespace Go.Proofs.YtjkecckndfcbjaaGreatDoor
open Go.RowKit Nb
attribute [local go_sem ↓] Go.wp_at_zero Go.wp_at_succ
theorem qch (w:World) (g i j:Nat) (u:Value) (h:i≠j):(w.setCell ⟨g,j,none⟩ u).cell? ⟨g,i,none⟩=w.cell? ⟨g,i,none⟩:=World.cell?_setCell_other _ _ _ _ (by intro e;injection e with _ e;exact h e.symm)
theorem four_set (w1:World) (g:Nat) (a b c d a' b' c' d':Value) (d0:w1.cell? ⟨g,0,none⟩=some a') (d1:w1.cell? ⟨g,1,none⟩=some b') (d2:w1.cell? ⟨g,2,none⟩=some c') (d3:w1.cell? ⟨g,3,none⟩=some d') :
 ((((w1.setCell ⟨g,0,none⟩ a).setCell ⟨g,1,none⟩ b).setCell ⟨g,2,none⟩ c).setCell ⟨g,3,none⟩ d).cell? ⟨g,0,none⟩=some a ∧
 ((((w1.setCell ⟨g,0,none⟩ a).setCell ⟨g,1,none⟩ b).setCell ⟨g,2,none⟩ c).setCell ⟨g,3,none⟩ d).cell? ⟨g,1,none⟩=some b ∧
 ((((w1.setCell ⟨g,0,none⟩ a).setCell ⟨g,1,none⟩ b).setCell ⟨g,2,none⟩ c).setCell ⟨g,3,none⟩ d).cell? ⟨g,2,none⟩=some c ∧
 ((((w1.setCell ⟨g,0,none⟩ a).setCell ⟨g,1,none⟩ b).setCell ⟨g,2,none⟩ c).setCell ⟨g,3,none⟩ d).cell? ⟨g,3,none⟩=some d:=by
 refine ⟨?_,?_,?_,?_⟩
 ·rw [qch _ _ _ _ _ (by omega),qch _ _ _ _ _ (by omega),qch _ _ _ _ _ (by omega)]
  exact World.cell?_setCell_same _ _ _ d0
 ·rw [qch _ _ _ _ _ (by omega),qch _ _ _ _ _ (by omega)]
  exact World.cell?_setCell_same (u:=b') _ _ _ (by rw [qch _ _ _ _ _ (by omega)];exact d1)
 ·rw [qch _ _ _ _ _ (by omega)]
  exact World.cell?_setCell_same (u:=c') _ _ _ (by rw [qch _ _ _ _ _ (by omega),qch _ _ _ _ _ (by omega)];exact d2)
 ·exact World.cell?_setCell_same (u:=d') _ _ _ (by rw [qch _ _ _ _ _ (by omega),qch _ _ _ _ _ (by omega),qch _ _ _ _ _ (by omega)];exact d3)
theorem qpt (w1:World) (g:Nat) (a b c d a' b' c' d':Value) (d0:w1.cell? ⟨g,0,none⟩=some a') (d1:w1.cell? ⟨g,1,none⟩=some b') (d2:w1.cell? ⟨g,2,none⟩=some c') (d3:w1.cell? ⟨g,3,none⟩=some d') (o1 o2:Obj) :
 ((((((w1.setCell ⟨g,0,none⟩ a).setCell ⟨g,1,none⟩ b).setCell ⟨g,2,none⟩ c).setCell ⟨g,3,none⟩ d).alloc o1).alloc o2).cell? ⟨g,0,none⟩=some a ∧
 ((((((w1.setCell ⟨g,0,none⟩ a).setCell ⟨g,1,none⟩ b).setCell ⟨g,2,none⟩ c).setCell ⟨g,3,none⟩ d).alloc o1).alloc o2).cell? ⟨g,1,none⟩=some b ∧
 ((((((w1.setCell ⟨g,0,none⟩ a).setCell ⟨g,1,none⟩ b).setCell ⟨g,2,none⟩ c).setCell ⟨g,3,none⟩ d).alloc o1).alloc o2).cell? ⟨g,2,none⟩=some c ∧
 ((((((w1.setCell ⟨g,0,none⟩ a).setCell ⟨g,1,none⟩ b).setCell ⟨g,2,none⟩ c).setCell ⟨g,3,none⟩ d).alloc o1).alloc o2).cell? ⟨g,3,none⟩=some d:=by
 obtain ⟨k0,k1,k2,k3⟩:=four_set w1 g a b c d a' b' c' d' d0 d1 d2 d3
 have hl:=qan k0
 have e:∀ i,((((((w1.setCell ⟨g,0,none⟩ a).setCell ⟨g,1,none⟩ b).setCell ⟨g,2,none⟩ c).setCell ⟨g,3,none⟩ d).alloc o1).alloc o2).cell? ⟨g,i,none⟩=((((w1.setCell ⟨g,0,none⟩ a).setCell ⟨g,1,none⟩ b).setCell ⟨g,2,none⟩ c).setCell ⟨g,3,none⟩ d).cell? ⟨g,i,none⟩:=fun i=>by
  rw [World.cell?_alloc_lt _ _ ⟨g,i,none⟩ (by simp at hl ⊢;omega),World.cell?_alloc_lt _ _ ⟨g,i,none⟩ hl]
 exact ⟨(e 0).trans k0,(e 1).trans k1,(e 2).trans k2,(e 3).trans k3⟩
def InT (s:ByteArray) (r:RS×List UInt8) (w:World) (e:Ending) (w':World):Prop:=Below w.heap.size w w'∧∃ pc,e=.returned (.tuple #[inV s r.1 pc,.string ⟨r.2.toArray⟩])
def InE (s:ByteArray) (r:RS) (w:World) (e:Ending) (w':World):Prop:=Below w.heap.size w w'∧∃ pc,e=.returned (inV s r pc)
def InR (s:ByteArray) (r:RS×List Nat) (w:World) (e:Ending) (w':World):Prop:=Below w.heap.size w w'∧∃ pc A cp,e=.returned (.tuple #[inV s r.1 pc,.slice A r.2.length cp])∧RdI w'.heap.size w' A (ints r.2)∧((A=none→cp=0)∧r.2.length≤cp)∧(∀ a,A=some a→w.heap.size≤a.block)
set_option maxRecDepth 100000 in
set_option maxHeartbeats 2000000 in
theorem qkm (s pc:ByteArray) (r:RS) (most:Nat) (w:World) (hp:r.pos≤s.size) (hs:s.size≤1000000) :
 Calls Tryz.prog 108 #[inV s r pc,.int .i64 most] w fun e w'=>InT s (qcb s.data.toList most r) w e w':=by
 unfold inV
 by_cases he:r.e=0
 ·have e0:(r.e:Int)=0:=by omega
  rw [e0]
  have hsl:s.data.toList.length=s.size:=by simp
  cases hgl:getL (s.data.toList.drop r.pos) with
  | no c =>
    have HGE:=hI (fun W=>qoi s r.pos c W hp hs hgl)
    have hc:=qdg hgl
    have hc0:((c:Int) == 0)=false:=by simp;omega
    have hc1:((c:Int) != 0)=true:=by simp;omega
    have HC1:Hid ((c:Int)≠0):=by show _≠_;omega
    have HNR:=hI (qte (most:=most) he hgl)
    clear hgl hc he e0 hsl
    go_enter Tryz.func108,Tryz.ntmps108
    go_wp2_with (first | (go_at_call 120;refine (HGE.out _).mono ?_;rintro e w' ⟨rfl,rfl⟩) | (go_at_call 137;refine (qcr _ _ _ _ _ _ _ _ HC1.out).mono ?_;rintro e w' ⟨rfl,rfl⟩))
    rw [HNR.out]
    refine bodyPost_ret (v:=.tuple #[inV s ⟨r.pos,c⟩ ⟨#[116,101,120,116]⟩,.string ⟨#[]⟩]) (by simp [results,Tryz.results108,go_sem,inV]) rfl ⟨?_,_,rfl⟩
    exact qab (qab (qab (bel1 w _) _) _) _
  | ok n k =>
    have HGE:=hI (fun W=>qoh s r.pos n k W hp hs hgl)
    obtain ⟨-,-,hk,hn⟩:=qcn hgl
    have hk2:r.pos + k≤s.size:=by rw [List.length_drop] at hk;simp at hk;omega
    have HM:Hid (∀ (c:Int) (hc:c≠0) (s pc piece:ByteArray) (p e0 to:Int) (W:World),Calls Tryz.prog 137 #[.agg #[.string s,.int .i64 p,.string pc,.int .i64 e0],.string piece,.int .i64 to,.int .i64 c] W fun ev w'=>ev=.returned (.agg #[.string s,.int .i64 p,.string piece,.int .i64 c])∧w'=(W.alloc (.cells #[.string s,.int .i64 p,.string piece,.int .i64 c] 175)).alloc (.cells #[.string s,.int .i64 p,.string piece,.int .i64 c] 175)):=fun c hc s pc piece p e0 to W=>qcr s pc piece p e0 to c W hc
    have HM3:=hI (HM.out 3 (by omega))
    have HM4:=hI (HM.out 4 (by omega))
    clear HM
    by_cases hbig:most < n
    ·have HNR:=hI (qoy he hgl hbig)
     clear hgl he e0 hsl hk hk2 hn
     go_enter Tryz.func108,Tryz.ntmps108
     go_wp2_with (first | (go_at_call 120;refine (HGE.out _).mono ?_;rintro e w' ⟨rfl,rfl⟩) | (go_at_call 137;refine (HM3.out _ _ _ _ _ _ _).mono ?_;rintro e w' ⟨rfl,rfl⟩))
     rw [HNR.out]
     refine bodyPost_ret (v:=.tuple #[inV s ⟨r.pos,3⟩ ⟨#[116,101,120,116]⟩,.string ⟨#[]⟩]) (by simp [results,Tryz.results108,go_sem,inV]) rfl ⟨?_,_,rfl⟩
     exact qab (qab (qab (bel1 w _) _) _) _
    ·have hb4:decide (most < n)=false:=by simp;omega
     obtain ⟨q,hq⟩:∃ q,r.pos + k=q:=⟨_,rfl⟩
     rw [hq] at HGE hk2
     by_cases hsh:s.size - q < n
     ·have HNR:=hI (qkc he hgl hbig (by rw [hsl,hq];exact hsh))
      have hb5:decide ((s.size:Int) - (q:Int) < (n:Int))=true:=by simp;omega
      clear hgl he e0 hsl hk hn hbig hq hsh
      go_enter Tryz.func108,Tryz.ntmps108
      go_wp2_with (first | (go_at_call 120;refine (HGE.out _).mono ?_;rintro e w' ⟨rfl,rfl⟩) | (go_at_call 137;refine (HM4.out _ _ _ _ _ _ _).mono ?_;rintro e w' ⟨rfl,rfl⟩))
      rw [HNR.out]
      refine bodyPost_ret (v:=.tuple #[inV s ⟨r.pos,4⟩ ⟨#[116,101,120,116]⟩,.string ⟨#[]⟩]) (by simp [results,Tryz.results108,go_sem,inV]) rfl ⟨?_,_,rfl⟩
      exact qab (qab (qab (bel1 w _) _) _) _
     ·have HNR:=hI (qoz he hgl hbig (by rw [hsl,hq];exact hsh))
      rw [hq] at HNR
      have hb5:decide ((s.size:Int) - (q:Int) < (n:Int))=false:=by simp;omega
      have hz1:(q:Int) + (n:Int)≤(s.size:Int):=by omega
      have HXS:Hid (s.extract q (q + n)=⟨((s.data.toList.drop q).take n).toArray⟩):=by
       have e1:s.extract q (q + n)=⟨((s.data.toList.drop q).take n).toArray⟩:=by
        apply ByteArray.ext
        apply Array.ext'
        rw [qev]
        simp
       exact e1
      clear hgl he e0 hsl hk hk2 hn hbig hq hsh
      go_enter Tryz.func108,Tryz.ntmps108
      go_wp2_with (go_at_call 120;refine (HGE.out _).mono ?_;rintro e w' ⟨rfl,rfl⟩)
      have hsum:IntKind.i64.wrap ((q:Int) + (n:Int))=(q:Int) + (n:Int):=IntWalk.i64_in _ (by omega)
      have hq0:(0:Int)≤(q:Int):=by omega
      have hq1:(0:Int)≤(q:Int) + (n:Int):=by omega
      have hq2:((q:Int) + (n:Int)).toNat=q + n:=by omega
      have hq3:(q:Int)≤(q:Int) + (n:Int):=by omega
      have z0:((w.alloc (.cells #[.string s,.int .i64 (r.pos:Int),.string pc,.int .i64 0] 175)).alloc (.cells #[.string ⟨#[]⟩,.int .i64 0,.string ⟨#[]⟩,.int .i64 0] 175)).cell? ⟨w.heap.size,0,none⟩=some (.string s):=by simp
      have z1:((w.alloc (.cells #[.string s,.int .i64 (r.pos:Int),.string pc,.int .i64 0] 175)).alloc (.cells #[.string ⟨#[]⟩,.int .i64 0,.string ⟨#[]⟩,.int .i64 0] 175)).cell? ⟨w.heap.size,1,none⟩=some (.int .i64 (r.pos:Int)):=by simp
      have z2:((w.alloc (.cells #[.string s,.int .i64 (r.pos:Int),.string pc,.int .i64 0] 175)).alloc (.cells #[.string ⟨#[]⟩,.int .i64 0,.string ⟨#[]⟩,.int .i64 0] 175)).cell? ⟨w.heap.size,2,none⟩=some (.string pc):=by simp
      have z3:((w.alloc (.cells #[.string s,.int .i64 (r.pos:Int),.string pc,.int .i64 0] 175)).alloc (.cells #[.string ⟨#[]⟩,.int .i64 0,.string ⟨#[]⟩,.int .i64 0] 175)).cell? ⟨w.heap.size,3,none⟩=some (.int .i64 0):=by simp
      go_region_held3 (fun w'=>w'.cell? ⟨w.heap.size,0,none⟩=some (.string s)∧w'.cell? ⟨w.heap.size,1,none⟩=some (.int .i64 (r.pos:Int))∧w'.cell? ⟨w.heap.size,2,none⟩=some (.string pc)∧w'.cell? ⟨w.heap.size,3,none⟩=some (.int .i64 0)) (first | go_keep | exact ⟨z0,z1,z2,z3⟩)
       ((go_at_call 137;refine (qfs _ _ _ _ _ _ _).mono ?_;rintro e w' ⟨rfl,rfl⟩))
      go_wp2
      rw [HNR.out]
      refine bodyPost_ret (v:=.tuple #[inV s ⟨q + n,0⟩ pc,.string (s.extract q (q + n))]) (by simp [results,Tryz.results108,go_sem,inV]) rfl ⟨?_,_,by rw [HXS.out]⟩
      exact (qab (qab (qab (bel1 w _) _) _) _).drew
 ·have HNR:Hid (qcb s.data.toList most r=(r,[])):=qpa he
  have e0:((r.e:Int) != 0)=true:=by simpa using he
  clear he
  go_enter Tryz.func108,Tryz.ntmps108
  go_wp2
  rw [HNR.out]
  refine bodyPost_ret (v:=.tuple #[inV s r pc,.string ⟨#[]⟩]) (by simp [results,Tryz.results108,go_sem,inV]) rfl ⟨?_,_,rfl⟩
  exact qab (bel1 w _) _
set_option maxRecDepth 100000 in
set_option maxHeartbeats 1000000 in
theorem qty (s pc:ByteArray) (r:RS) (w:World) :
 Calls Tryz.prog 109 #[inV s r pc] w fun e w'=>InE s (endR s.data.toList r) w e w':=by
 unfold inV
 have hsl:s.data.toList.length=s.size:=by simp
 by_cases h:r.e=0∧r.pos < s.size
 ·have HNR:Hid (endR s.data.toList r=⟨r.pos,6⟩):=by show _=_;unfold endR;rw [hsl,if_pos h]
  have e0:((r.e:Int) == 0)=true:=by simp;omega
  have hps:=h.2
  have HM:Hid (∀ (s pc piece:ByteArray) (p e0 to:Int) (W:World),Calls Tryz.prog 137 #[.agg #[.string s,.int .i64 p,.string pc,.int .i64 e0],.string piece,.int .i64 to,.int .i64 6] W fun ev w'=>ev=.returned (.agg #[.string s,.int .i64 p,.string piece,.int .i64 6])∧w'=(W.alloc (.cells #[.string s,.int .i64 p,.string piece,.int .i64 6] 175)).alloc (.cells #[.string s,.int .i64 p,.string piece,.int .i64 6] 175)):=fun s pc piece p e0 to W=>qcr s pc piece p e0 to 6 W (by omega)
  clear h hsl
  go_enter Tryz.func109,Tryz.ntmps109
  go_wp2_with (go_at_call 137;refine (HM.out _ _ _ _ _ _ _).mono ?_;rintro e w' ⟨rfl,rfl⟩)
  rw [HNR.out]
  refine bodyPost_ret (v:=inV s ⟨r.pos,6⟩ ⟨#[101,110,100]⟩) (by simp [results,Tryz.results109,go_sem,inV]) rfl ⟨?_,_,rfl⟩
  exact qab (qab (qab (bel1 w _) _) _) _
 ·have HNR:Hid (endR s.data.toList r=r):=by show _=_;unfold endR;rw [hsl,if_neg h]
  by_cases he:r.e=0
  ·have e0:((r.e:Int) == 0)=true:=by simp;omega
   have hps:decide (r.pos < s.size)=false:=by simp;omega
   clear h hsl he
   go_enter Tryz.func109,Tryz.ntmps109
   go_wp2
   rw [HNR.out]
   refine bodyPost_ret (v:=inV s r pc) (by simp [results,Tryz.results109,go_sem,inV]) rfl ⟨?_,_,rfl⟩
   exact qab (bel1 w _) _
  ·have e0:((r.e:Int) == 0)=false:=by simp;omega
   clear h hsl he
   go_enter Tryz.func109,Tryz.ntmps109
   go_wp2
   rw [HNR.out]
   refine bodyPost_ret (v:=inV s r pc) (by simp [results,Tryz.results109,go_sem,inV]) rfl ⟨?_,_,rfl⟩
   exact qab (bel1 w _) _
set_option maxRecDepth 100000 in
set_option maxHeartbeats 2000000 in
theorem qpu (s pc:ByteArray) (r:RS) (most:Nat) (w:World) (hp:r.pos≤s.size) (hs:s.size≤1000000) (hm:most≤1000) :
 Calls Tryz.prog 157 #[inV s r pc,.int .i64 most] w fun e w'=>InR s (rowR s.data.toList most r) w e w':=by
 unfold inV
 by_cases he:r.e=0
 ·have e0:(r.e:Int)=0:=by omega
  rw [e0]
  have HU:=hI (qxi s r.pos most ((w.alloc (.cells #[.string s,.int .i64 (r.pos:Int),.string pc,.int .i64 0] 175)).alloc (.cells #[.string ⟨#[]⟩,.int .i64 0,.string ⟨#[]⟩,.int .i64 0] 175)) hp hs hm)
  cases hun:qdk (s.data.toList.drop r.pos) most with
  | no c =>
    have hc:=qmu hun
    have HNR:=hI (rowR_no he hun)
    rw [hun] at HU
    have HC1:Hid ((c:Int)≠0):=by show _≠_;omega
    clear hun hc he e0
    go_enter Tryz.func157,Tryz.ntmps157
    go_wp2_with fail
    refine HU.out.mono ?_
    rintro e w1 ⟨hb1,rfl⟩
    obtain ⟨hc,hf⟩:=bcell hb1
    have hz:w.heap.size + 1 < w1.heap.size:=by have:=hb1.size;simp at this;omega
    have hz0:w.heap.size < w1.heap.size:=by omega
    have b0:w1.cell? ⟨w.heap.size,0,none⟩=some (.string s):=by rw [hc _ _ (by simp;omega)];simp
    have b1:w1.cell? ⟨w.heap.size,1,none⟩=some (.int .i64 (r.pos:Int)):=by rw [hc _ _ (by simp;omega)];simp
    have b2:w1.cell? ⟨w.heap.size,2,none⟩=some (.string pc):=by rw [hc _ _ (by simp;omega)];simp
    have b3:w1.cell? ⟨w.heap.size,3,none⟩=some (.int .i64 0):=by rw [hc _ _ (by simp;omega)];simp
    have d0:w1.cell? ⟨w.heap.size + 1,0,none⟩=some (.string ⟨#[]⟩):=by rw [hc _ _ (by simp)];simp
    have d1:w1.cell? ⟨w.heap.size + 1,1,none⟩=some (.int .i64 0):=by rw [hc _ _ (by simp)];simp
    have d2:w1.cell? ⟨w.heap.size + 1,2,none⟩=some (.string ⟨#[]⟩):=by rw [hc _ _ (by simp)];simp
    have d3:w1.cell? ⟨w.heap.size + 1,3,none⟩=some (.int .i64 0):=by rw [hc _ _ (by simp)];simp
    have g0:w1.frozen? ⟨w.heap.size + 1,0,none⟩=false:=by rw [hf _ _ (by simp)];simp
    have g1:w1.frozen? ⟨w.heap.size + 1,1,none⟩=false:=by rw [hf _ _ (by simp)];simp
    have g2:w1.frozen? ⟨w.heap.size + 1,2,none⟩=false:=by rw [hf _ _ (by simp)];simp
    have g3:w1.frozen? ⟨w.heap.size + 1,3,none⟩=false:=by rw [hf _ _ (by simp)];simp
    have HB1:=hI (qad (qab (bel1 w _) _) hb1)
    clear hb1 hc hf
    go_wp2_with (go_at_call 137;refine (qcr _ _ _ _ _ _ _ _ HC1.out).mono ?_;rintro e w' ⟨rfl,rfl⟩)
    rw [HNR.out]
    obtain ⟨k0,k1,k2,k3⟩:=qpt w1 (w.heap.size + 1) (.string s) (.int .i64 (r.pos:Int)) (.string ⟨#[114,111,119]⟩) (.int .i64 (c:Int)) _ _ _ _ d0 d1 d2 d3 (.cells #[.string s,.int .i64 (r.pos:Int),.string ⟨#[114,111,119]⟩,.int .i64 (c:Int)] 175) (.cells #[.string s,.int .i64 (r.pos:Int),.string ⟨#[114,111,119]⟩,.int .i64 (c:Int)] 175)
    refine bodyPost_ret (v:=.tuple #[inV s ⟨r.pos,c⟩ ⟨#[114,111,119]⟩,.slice none 0 0]) (by simp [results,Tryz.results157,go_sem,inV,k0,k1,k2,k3]) rfl ⟨?_,_,none,0,rfl,RdI.none_,⟨fun _=>rfl,Nat.zero_le _⟩,fun _ h=>by cases h⟩
    repeat' (first | exact HB1.out | (refine Below.setCell ?_ (by simp) _) | (refine qab ?_ _))
  | ok l k =>
    have HNR:=hI (qtf he hun)
    rw [hun] at HU
    clear hun he e0
    go_enter Tryz.func157,Tryz.ntmps157
    go_wp2_with fail
    refine HU.out.mono ?_
    rintro e w1 ⟨hb1,A,cp,rfl,hrd,hnil,hlo⟩
    obtain ⟨hc,hf⟩:=bcell hb1
    have hz:w.heap.size + 1 < w1.heap.size:=by have:=hb1.size;simp at this;omega
    have hz0:w.heap.size < w1.heap.size:=by omega
    have b0:w1.cell? ⟨w.heap.size,0,none⟩=some (.string s):=by rw [hc _ _ (by simp;omega)];simp
    have b1:w1.cell? ⟨w.heap.size,1,none⟩=some (.int .i64 (r.pos:Int)):=by rw [hc _ _ (by simp;omega)];simp
    have b2:w1.cell? ⟨w.heap.size,2,none⟩=some (.string pc):=by rw [hc _ _ (by simp;omega)];simp
    have b3:w1.cell? ⟨w.heap.size,3,none⟩=some (.int .i64 0):=by rw [hc _ _ (by simp;omega)];simp
    have d0:w1.cell? ⟨w.heap.size + 1,0,none⟩=some (.string ⟨#[]⟩):=by rw [hc _ _ (by simp)];simp
    have d1:w1.cell? ⟨w.heap.size + 1,1,none⟩=some (.int .i64 0):=by rw [hc _ _ (by simp)];simp
    have d2:w1.cell? ⟨w.heap.size + 1,2,none⟩=some (.string ⟨#[]⟩):=by rw [hc _ _ (by simp)];simp
    have d3:w1.cell? ⟨w.heap.size + 1,3,none⟩=some (.int .i64 0):=by rw [hc _ _ (by simp)];simp
    have g0:w1.frozen? ⟨w.heap.size + 1,0,none⟩=false:=by rw [hf _ _ (by simp)];simp
    have g1:w1.frozen? ⟨w.heap.size + 1,1,none⟩=false:=by rw [hf _ _ (by simp)];simp
    have g2:w1.frozen? ⟨w.heap.size + 1,2,none⟩=false:=by rw [hf _ _ (by simp)];simp
    have g3:w1.frozen? ⟨w.heap.size + 1,3,none⟩=false:=by rw [hf _ _ (by simp)];simp
    have HB1:=hI (qad (qab (bel1 w _) _) hb1)
    clear hb1 hc hf
    have HRD:=hI hrd
    have HNI:=hI hnil
    have HLO:=hI hlo
    clear hrd hnil hlo
    go_wp2_with (go_at_call 137;refine (qfs _ _ _ _ _ _ _).mono ?_;rintro e w' ⟨rfl,rfl⟩)
    rw [HNR.out]
    obtain ⟨k0,k1,k2,k3⟩:=qpt w1 (w.heap.size + 1) (.string s) (.int .i64 ((r.pos:Int) + (k:Int))) (.string pc) (.int .i64 0) _ _ _ _ d0 d1 d2 d3 (.cells #[.string s,.int .i64 ((r.pos:Int) + (k:Int)),.string pc,.int .i64 0] 175) (.cells #[.string s,.int .i64 ((r.pos:Int) + (k:Int)),.string pc,.int .i64 0] 175)
    refine bodyPost_ret (v:=.tuple #[inV s ⟨r.pos + k,0⟩ pc,.slice A l.length cp]) (by simp [results,Tryz.results157,go_sem,inV,k0,k1,k2,k3]) rfl ⟨?_,_,A,cp,rfl,?_,HNI.out,fun a ha=>by have:=HLO.out a ha;simp at this;omega⟩
    ·repeat' (first | exact HB1.out | (refine Below.setCell ?_ (by simp) _) | (refine qab ?_ _))
    ·refine HRD.out.grown (g:=w.heap.size + 1) ?_ (fun a ha=>by have:=HLO.out a ha;simp at this;omega)
     repeat' (first | exact World.grownBy.refl _ _ | (refine qag ?_ rfl _) | (refine qem ?_ _))
 ·have HNR:Hid (rowR s.data.toList most r=(r,[])):=qth he
  have e0:((r.e:Int) != 0)=true:=by simpa using he
  clear he
  go_enter Tryz.func157,Tryz.ntmps157
  go_wp2
  rw [HNR.out]
  refine bodyPost_ret (v:=.tuple #[inV s r pc,.slice none 0 0]) (by simp [results,Tryz.results157,go_sem,inV]) rfl ⟨?_,_,none,0,rfl,RdI.none_,⟨fun _=>rfl,Nat.zero_le _⟩,fun _ h=>by cases h⟩
  exact qab (bel1 w _) _
end Go.Proofs.YtjkecckndfcbjaaGreatDoor
namespace Go.Proofs.YtjkecckndfcbjaaGreatDoor
open Go.RowKit Nb
def outV (x:ByteArray):Value:=.agg #[.string x,.string ⟨#[]⟩,.int .i64 0]
theorem heap3 {w:World} {g:Nat} {a b c:Value} {T:TypeId} (h:w.heap[g]?=some (.cells #[a,b,c] T (0,0))) (a' b' c':Value) :
 (((w.setCell ⟨g,0,none⟩ a').setCell ⟨g,1,none⟩ b').setCell ⟨g,2,none⟩ c').heap[g]?=some (.cells #[a',b',c'] T (0,0)):=by
 rw [qae (qae (qae h 0 a') 1 b') 2 c'];rfl
theorem heap3_far {w:World} {g i:Nat} (hi:i≠g) (a' b' c':Value):(((w.setCell ⟨g,0,none⟩ a').setCell ⟨g,1,none⟩ b').setCell ⟨g,2,none⟩ c').heap[i]?=w.heap[i]?:=by
 rw [Below.heap_setCell _ _ _ _ hi,Below.heap_setCell _ _ _ _ hi,Below.heap_setCell _ _ _ _ hi]
theorem qhb {w:World} {g:Nat} {o:Obj} (h:w.heap[g]?=some o) (x:Obj):(w.alloc x).heap[g]?=some o:=(Below.heap_alloc w x g (qaa h)).trans h
theorem qft {w:World} {g:Nat} {a b c:Value} {T:TypeId} (h:w.heap[g]?=some (.cells #[a,b,c] T (0,0))) :
 w.cell? ⟨g,0,none⟩=some a∧w.cell? ⟨g,1,none⟩=some b∧w.cell? ⟨g,2,none⟩=some c∧w.frozen? ⟨g,0,none⟩=false∧w.frozen? ⟨g,1,none⟩=false∧w.frozen? ⟨g,2,none⟩=false :=
 ⟨by rw [qac h];rfl,by rw [qac h];rfl,by rw [qac h];rfl,Lib.frozen_of_heap h 0,Lib.frozen_of_heap h 1,Lib.frozen_of_heap h 2⟩
theorem bel3 {w a:World} {g:Nat} (h:Below w.heap.size w a) (hg:w.heap.size≤g) (x y z:Value):Below w.heap.size w (((a.setCell ⟨g,0,none⟩ x).setCell ⟨g,1,none⟩ y).setCell ⟨g,2,none⟩ z) :=
 ((h.setCell (p:=⟨g,0,none⟩) hg x).setCell (p:=⟨g,1,none⟩) hg y).setCell (p:=⟨g,2,none⟩) hg z
theorem qnm (x s piece:ByteArray) (w:World) (hl:x.size + s.size≤1000000000) :
 Calls Tryz.prog 141 #[.agg #[.string x,.string ⟨#[]⟩,.int .i64 0],.string piece,.string s,.int .i64 0] w fun e w'=>e=.returned (.agg #[.string (x ++ s),.string ⟨#[]⟩,.int .i64 0]) ∧
  w'=(w.alloc (.cells #[.string (x ++ s),.string ⟨#[]⟩,.int .i64 0] 202)).alloc (.cells #[.string (x ++ s),.string ⟨#[]⟩,.int .i64 0] 202):=by
 go_enter Tryz.func141,Tryz.ntmps141
 go_wp2
 exact bodyPost_ret (v:=.agg #[.string (x ++ s),.string ⟨#[]⟩,.int .i64 0]) (by simp [results,Tryz.results141,go_sem]) rfl ⟨rfl,rfl⟩
theorem two_out (w:World) (x:ByteArray):((w.alloc (.cells #[.string x,.string ⟨#[]⟩,.int .i64 0] 202)).alloc (.cells #[.string ⟨#[]⟩,.string ⟨#[]⟩,.int .i64 0] 202)).heap[w.heap.size]?=some (.cells #[.string x,.string ⟨#[]⟩,.int .i64 0] 202 (0,0)) ∧
 ((w.alloc (.cells #[.string x,.string ⟨#[]⟩,.int .i64 0] 202)).alloc (.cells #[.string ⟨#[]⟩,.string ⟨#[]⟩,.int .i64 0] 202)).heap[w.heap.size + 1]?=some (.cells #[.string ⟨#[]⟩,.string ⟨#[]⟩,.int .i64 0] 202 (0,0)):=by
 constructor
 ·exact qhb (by show (w.heap.push _)[w.heap.size]?=_;simp) _
 ·show ((w.heap.push _).push _)[w.heap.size + 1]?=_
  rw [Array.getElem?_push,if_pos (by simp)]
set_option maxRecDepth 100000 in
set_option maxHeartbeats 1000000 in
theorem qkn (x s:ByteArray) (w:World) (hl:x.size + s.size≤900000000) :
 Calls Tryz.prog 119 #[outV x,.string s] w fun e w'=>e=.returned (outV (x ++ ⟨(qdf s.data.toList).toArray⟩))∧Below w.heap.size w w':=by
 unfold outV
 have h9:=qax s.size (by omega)
 obtain ⟨t0,t1⟩:=two_out w x
 have HT0:=hI t0
 have HT1:=hI t1
 have HP:=hI (qil s.size ((w.alloc (.cells #[.string x,.string ⟨#[]⟩,.int .i64 0] 202)).alloc (.cells #[.string ⟨#[]⟩,.string ⟨#[]⟩,.int .i64 0] 202)) (by omega))
 obtain ⟨y,hy⟩:∃ y:ByteArray,y=⟨(numB s.size).toArray⟩:=⟨_,rfl⟩
 have hys:y.size≤9:=by rw [hy,qaz];exact h9
 rw [←hy] at HP
 obtain ⟨z,hz⟩:∃ z,y ++ s=z:=⟨_,rfl⟩
 have hzs:z.size≤9 + s.size:=by rw [←hz,ByteArray.size_append];omega
 have HZ:Hid (z=⟨(qdf s.data.toList).toArray⟩):=by
  have e0:z=⟨(qdf s.data.toList).toArray⟩:=by
   rw [←hz,hy]
   apply ByteArray.ext
   simp [qdf]
  exact e0
 clear hy h9 t0 t1
 go_enter Tryz.func119,Tryz.ntmps119
 go_wp2_with fail
 refine HP.out.mono ?_
 rintro e w1 ⟨rfl,hb1⟩
 have q0:=(hb1.block w.heap.size (qaa HT0.out)).trans HT0.out
 have q1:=(hb1.block (w.heap.size + 1) (qaa HT1.out)).trans HT1.out
 obtain ⟨b0,b1,b2,_,_,_⟩:=qft q0
 obtain ⟨d0,d1,d2,g0,g1,g2⟩:=qft q1
 have hz2:w.heap.size + 1 < w1.heap.size:=qaa q1
 have hz0:w.heap.size < w1.heap.size:=by omega
 have Q1:=hI q1
 have HB1:=hI (qad (qab (bel1 w _) _) hb1)
 clear hb1 q0 q1
 have hxz:x.size + z.size≤1000000000:=by omega
 go_wp2_with (go_at_call 141;refine (qnm x z _ _ hxz).mono ?_;rintro e w' ⟨rfl,rfl⟩)
 obtain ⟨k0,k1,k2,_,_,_⟩:=qft (qhb (qhb (heap3 Q1.out (.string (x ++ z)) (.string ⟨#[]⟩) (.int .i64 0)) (.cells #[.string (x ++ z),.string ⟨#[]⟩,.int .i64 0] 202)) (.cells #[.string (x ++ z),.string ⟨#[]⟩,.int .i64 0] 202))
 refine bodyPost_ret (v:=.agg #[.string (x ++ z),.string ⟨#[]⟩,.int .i64 0]) (by simp [results,Tryz.results119,go_sem,k0,k1,k2]) rfl ⟨by rw [HZ.out],?_⟩
 exact qab (qab (bel3 HB1.out (by omega) _ _ _) _) _
def NumsR (x:ByteArray) (d:Array Int) (w:World) (iv:Value) (wr:World):Prop:=∃ (k:Nat) (y:ByteArray),iv=.int .i64 (k:Int)∧k≤d.size∧y.data.toList=x.data.toList ++ ((nats d).take k).flatMap numB ∧
 wr.heap[w.heap.size]?=some (.cells #[.string y,.string ⟨#[]⟩,.int .i64 0] 202 (0,0))∧wr.heap[w.heap.size + 1]?=some (.cells #[.string ⟨#[]⟩,.string ⟨#[]⟩,.int .i64 0] 202 (0,0))∧Below w.heap.size w wr
set_option maxRecDepth 100000 in
set_option maxHeartbeats 1000000 in
theorem qtz (x:ByteArray) (A:Option Addr) (c:Nat) (d:Array Int) (w:World) (h:RdI w.heap.size w A d) (hd:LayN d) (hs:d.size≤10000) (hl:x.size≤900000000) :
 Calls Tryz.prog 118 #[outV x,.slice A d.size c] w fun e w'=>e=.returned (outV (x ++ ⟨((nats d).flatMap numB).toArray⟩))∧Below w.heap.size w w':=by
 unfold outV
 have HR:=hI h
 have HD:=hI hd
 obtain ⟨t0,t1⟩:=two_out w x
 have HT0:=hI t0
 have HT1:=hI t1
 clear h hd t0 t1
 go_enter Tryz.func118,Tryz.ntmps118
 go_wp2
 go_loopw [5] (fun i wr=>NumsR x d w i wr) (fun i _=>d.size - (intOf i).toNat)
 case atStart=>exact ⟨0,x,rfl,Nat.zero_le _,by simp,HT0.out,HT1.out,qab (bel1 w _) _⟩
 case round =>
  obtain ⟨k,y,rfl,hk,hy,hq0,hq1,hB⟩:=hrel
  have HY:=hI hy
  have HQ0:=hI hq0
  have HQ1:=hI hq1
  have HB:=hI hB
  have htl:=qvo d HD.out k
  have hys:y.size≤900000000 + 9 * k:=by
   have e1:y.size=y.data.toList.length:=by simp
   have e2:x.size=x.data.toList.length:=by simp
   rw [e1,hy,List.length_append];omega
  clear hy hq0 hq1 hB htl
  by_cases hlt:k < d.size
  ·have kz:(k:Int) < (d.size:Int):=by omega
   obtain ⟨b,off,rfl,hbl,hc⟩:=(HR.out.below HB.out).at_ hlt
   have hx:=HD.out k hlt
   obtain ⟨n,hn⟩:∃ n:Nat,d[k]! = (n:Int):=⟨d[k]!.toNat,by omega⟩
   rw [hn] at hc
   have hn2:n≤9223372036854775807:=by omega
   have HN:Hid (d[k]!.toNat=n):=by show _=_;rw [hn];simp
   have hl9:=qax n hn2
   have HP:=hI (qil n wr hn2)
   obtain ⟨z,hz⟩:∃ y:ByteArray,y=⟨(numB n).toArray⟩:=⟨_,rfl⟩
   have hzs:z.size≤9:=by rw [hz,qaz];exact hl9
   rw [←hz] at HP
   have HZ:Hid ((y ++ z).data.toList=y.data.toList ++ numB n):=by
    have e0:(y ++ z).data.toList=y.data.toList ++ numB n:=by rw [hz];simp
    exact e0
   clear hx hn hn2 hz hl9
   go_wp2_with fail
   refine HP.out.mono ?_
   rintro e w1 ⟨rfl,hb1⟩
   have q0:=(hb1.block w.heap.size (qaa HQ0.out)).trans HQ0.out
   have q1:=(hb1.block (w.heap.size + 1) (qaa HQ1.out)).trans HQ1.out
   obtain ⟨b0,b1,b2,g0,g1,g2⟩:=qft q0
   have hz2:w.heap.size + 1 < w1.heap.size:=qaa q1
   have hz0:w.heap.size < w1.heap.size:=by omega
   have Q0:=hI q0
   have Q1:=hI q1
   have HB1:=hI (qad HB.out hb1)
   clear hb1 q0 q1
   have hxz:y.size + z.size≤1000000000:=by omega
   go_wp2_with (go_at_call 141;refine (qnm y z _ _ hxz).mono ?_;rintro e w' ⟨rfl,rfl⟩)
   go_roundw
   case rel =>
    refine ⟨k + 1,y ++ z,by go_num,by omega,?_,qhb (qhb (heap3 Q0.out _ _ _) _) _,qhb (qhb ((heap3_far (by omega) _ _ _).trans Q1.out) _) _,qab (qab (bel3 HB1.out (Nat.le_refl _) _ _ _) _) _⟩
    rw [HZ.out,HY.out,qrd d k hlt,HN.out]
    simp
   case measure=>simp [intOf];omega
  ·have hlt':decide ((k:Int) < (d.size:Int))=false:=by simp;omega
   obtain ⟨b0,b1,b2,_,_,_⟩:=qft HQ0.out
   obtain ⟨d0,d1,d2,g0,g1,g2⟩:=qft HQ1.out
   have hz2:w.heap.size + 1 < wr.heap.size:=qaa HQ1.out
   have HE:Hid (y=x ++ ⟨((nats d).flatMap numB).toArray⟩):=by
    have e0:y=x ++ ⟨((nats d).flatMap numB).toArray⟩:=by
     apply ByteArray.ext
     apply Array.ext'
     have e1:k=d.size:=by omega
     rw [HY.out,e1,qvn]
     simp
    exact e0
   go_wp2
   obtain ⟨k0,k1,k2,_,_,_⟩:=qft (heap3 HQ1.out (.string y) (.string ⟨#[]⟩) (.int .i64 0))
   refine bodyPost_ret (v:=.agg #[.string y,.string ⟨#[]⟩,.int .i64 0]) (by simp [results,Tryz.results118,go_sem,k0,k1,k2]) rfl ⟨by rw [HE.out],?_⟩
   exact bel3 HB.out (by omega) _ _ _
end Go.Proofs.YtjkecckndfcbjaaGreatDoor
namespace Go.Proofs.YtjkecckndfcbjaaGreatDoor
open Go.RowKit Nb
attribute [local go_sem ↓] Go.wp_at_zero Go.wp_at_succ
def InBP (s:ByteArray) (r:RS×Bool) (w:World) (e:Ending) (w':World):Prop:=Below w.heap.size w w'∧∃ pc,e=.returned (.tuple #[inV s r.1 pc,.bool r.2])
set_option maxRecDepth 100000 in
set_option maxHeartbeats 2000000 in
theorem rFlag_any (s pc:ByteArray) (r:RS) (w:World) (hp:r.pos≤s.size) (hs:s.size≤1000000) :
 Calls Tryz.prog 107 #[inV s r pc] w fun e w'=>InBP s (qdu s.data.toList r) w e w':=by
 unfold inV
 have hsl:s.data.toList.length=s.size:=by simp
 have HM:Hid (∀ (c:Int) (hc:c≠0) (s pc piece:ByteArray) (p e0 to:Int) (W:World),Calls Tryz.prog 137 #[.agg #[.string s,.int .i64 p,.string pc,.int .i64 e0],.string piece,.int .i64 to,.int .i64 c] W fun ev w'=>ev=.returned (.agg #[.string s,.int .i64 p,.string piece,.int .i64 c])∧w'=(W.alloc (.cells #[.string s,.int .i64 p,.string piece,.int .i64 c] 175)).alloc (.cells #[.string s,.int .i64 p,.string piece,.int .i64 c] 175)):=fun c hc s pc piece p e0 to W=>qcr s pc piece p e0 to c W hc
 have HM5:=hI (HM.out 5 (by omega))
 have HM4:=hI (HM.out 4 (by omega))
 clear HM
 by_cases he:r.e=0
 ·have e0:(r.e:Int)=0:=by omega
  rw [e0]
  by_cases hps:r.pos=s.size
  ·have HNR:=hI (qqw he (by omega:s.data.toList.length≤r.pos))
   have d1:decide (s.size≤r.pos)=true:=by simp;omega
   clear he e0 hsl hps
   go_enter Tryz.func107,Tryz.ntmps107
   go_wp2_with (go_at_call 137;refine (HM4.out _ _ _ _ _ _ _).mono ?_;rintro e w' ⟨rfl,rfl⟩)
   rw [HNR.out]
   refine bodyPost_ret (v:=.tuple #[inV s ⟨r.pos,4⟩ ⟨#[102,108,97,103]⟩,.bool false]) (by simp [results,Tryz.results107,go_sem,inV]) rfl ⟨?_,_,rfl⟩
   exact qab (qab (qab (bel1 w _) _) _) _
  ·have hlt2:r.pos < s.size:=by omega
   have d1:decide (s.size≤r.pos)=false:=by simp;omega
   have kz:(r.pos:Int) < (s.size:Int):=by omega
   have k0:(0:Int)≤(r.pos:Int):=by omega
   by_cases hx:1 < s[r.pos].toNat
   ·have HNR:=hI (qmo he hlt2 hx)
    have hx1:decide (1 < (s[r.pos].toNat:Int))=true:=by simp;omega
    clear he e0 hsl hps hx
    go_enter Tryz.func107,Tryz.ntmps107
    go_wp2_with (go_at_call 137;refine (HM5.out _ _ _ _ _ _ _).mono ?_;rintro e w' ⟨rfl,rfl⟩)
    rw [HNR.out]
    refine bodyPost_ret (v:=.tuple #[inV s ⟨r.pos,5⟩ ⟨#[102,108,97,103]⟩,.bool false]) (by simp [results,Tryz.results107,go_sem,inV]) rfl ⟨?_,_,rfl⟩
    exact qab (qab (qab (bel1 w _) _) _) _
   ·have HNR:=hI (qqx he hlt2 hx)
    have hx1:decide (1 < (s[r.pos].toNat:Int))=false:=by simp;omega
    have HB1:Hid (((s[r.pos].toNat:Int) == 1)=(s[r.pos].toNat == 1)):=by show _=_;rw [Bool.eq_iff_iff];simp;omega
    clear he e0 hsl hps hx
    go_enter Tryz.func107,Tryz.ntmps107
    go_wp2_with fail
    have hsum:IntKind.i64.wrap ((r.pos:Int) + 1)=(r.pos:Int) + 1:=IntWalk.i64_in _ (by omega)
    have z0:((w.alloc (.cells #[.string s,.int .i64 (r.pos:Int),.string pc,.int .i64 0] 175)).alloc (.cells #[.string ⟨#[]⟩,.int .i64 0,.string ⟨#[]⟩,.int .i64 0] 175)).cell? ⟨w.heap.size,0,none⟩=some (.string s):=by simp
    have z1:((w.alloc (.cells #[.string s,.int .i64 (r.pos:Int),.string pc,.int .i64 0] 175)).alloc (.cells #[.string ⟨#[]⟩,.int .i64 0,.string ⟨#[]⟩,.int .i64 0] 175)).cell? ⟨w.heap.size,1,none⟩=some (.int .i64 (r.pos:Int)):=by simp
    have z2:((w.alloc (.cells #[.string s,.int .i64 (r.pos:Int),.string pc,.int .i64 0] 175)).alloc (.cells #[.string ⟨#[]⟩,.int .i64 0,.string ⟨#[]⟩,.int .i64 0] 175)).cell? ⟨w.heap.size,2,none⟩=some (.string pc):=by simp
    have z3:((w.alloc (.cells #[.string s,.int .i64 (r.pos:Int),.string pc,.int .i64 0] 175)).alloc (.cells #[.string ⟨#[]⟩,.int .i64 0,.string ⟨#[]⟩,.int .i64 0] 175)).cell? ⟨w.heap.size,3,none⟩=some (.int .i64 0):=by simp
    go_region_held3 (fun w'=>w'.cell? ⟨w.heap.size,0,none⟩=some (.string s)∧w'.cell? ⟨w.heap.size,1,none⟩=some (.int .i64 (r.pos:Int))∧w'.cell? ⟨w.heap.size,2,none⟩=some (.string pc)∧w'.cell? ⟨w.heap.size,3,none⟩=some (.int .i64 0)) (first | go_keep | exact ⟨z0,z1,z2,z3⟩)
     ((go_at_call 137;refine (qfs _ _ _ _ _ _ _).mono ?_;rintro e w' ⟨rfl,rfl⟩))
    all_goals
     go_wp2
     rw [HNR.out]
     refine bodyPost_ret (v:=.tuple #[inV s ⟨r.pos + 1,0⟩ pc,.bool (s[r.pos].toNat == 1)]) (by rw [←HB1.out];simp [results,Tryz.results107,go_sem,inV]) rfl ⟨?_,_,rfl⟩
     exact (qab (qab (qab (bel1 w _) _) _) _).drew
 ·have HNR:Hid (qdu s.data.toList r=(r,false)):=qpb he
  have e0:((r.e:Int) != 0)=true:=by simpa using he
  clear he
  go_enter Tryz.func107,Tryz.ntmps107
  go_wp2
  rw [HNR.out]
  refine bodyPost_ret (v:=.tuple #[inV s r pc,.bool false]) (by simp [results,Tryz.results107,go_sem,inV]) rfl ⟨?_,_,rfl⟩
  exact qab (bel1 w _) _
set_option maxRecDepth 100000 in
set_option maxHeartbeats 1000000 in
theorem qsb (x:ByteArray) (b:Bool) (w:World) (hl:x.size≤900000000) :
 Calls Tryz.prog 117 #[outV x,.bool b] w fun e w'=>e=.returned (outV (x ++ ⟨(qer b).toArray⟩))∧Below w.heap.size w w':=by
 unfold outV
 cases b
 ·have hxz:x.size + (⟨#[0]⟩:ByteArray).size≤1000000000:=by show x.size + 1≤_;omega
  go_enter Tryz.func117,Tryz.ntmps117
  go_wp2_with (go_at_call 141;refine (qnm x ⟨#[0]⟩ _ _ hxz).mono ?_;rintro e w' ⟨rfl,rfl⟩)
  refine bodyPost_ret (v:=.agg #[.string (x ++ ⟨#[0]⟩),.string ⟨#[]⟩,.int .i64 0]) (by simp [results,Tryz.results117,go_sem]) rfl ⟨rfl,?_⟩
  exact qab (qab (qab (bel1 w _) _) _) _
 ·have hxz:x.size + (⟨#[1]⟩:ByteArray).size≤1000000000:=by show x.size + 1≤_;omega
  go_enter Tryz.func117,Tryz.ntmps117
  go_wp2_with (go_at_call 141;refine (qnm x ⟨#[1]⟩ _ _ hxz).mono ?_;rintro e w' ⟨rfl,rfl⟩)
  refine bodyPost_ret (v:=.agg #[.string (x ++ ⟨#[1]⟩),.string ⟨#[]⟩,.int .i64 0]) (by simp [results,Tryz.results117,go_sem]) rfl ⟨rfl,?_⟩
  exact qab (qab (qab (bel1 w _) _) _) _
end Go.Proofs.YtjkecckndfcbjaaGreatDoor
