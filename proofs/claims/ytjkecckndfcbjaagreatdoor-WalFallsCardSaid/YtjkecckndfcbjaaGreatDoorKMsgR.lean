/- Texts that the law leans on. -/
import Derived.Test.YtjkecckndfcbjaaGreatDoorKMsgF
import Derived.Test.YtjkecckndfcbjaaGreatDoorKRdr
namespace Go.Proofs.YtjkecckndfcbjaaGreatDoor
open Go.RowKit Go.Sort Nb
theorem Rdr.ne_glob {b:Nat} {s:ByteArray} {r:RS} {w:World} (h:Rdr b s r w) (hg:Glob w):b≠0:=by
 rintro rfl
 obtain ⟨ev,hE⟩:=h
 obtain ⟨c0,_⟩:=hE.cells
 unfold Glob at hg
 rw [hg] at c0
 cases c0
theorem Glob.rpost {b:Nat} {s:ByteArray} {r r':RS} {w w':World} (hg:Glob w) (h:Rdr b s r w) (hP:RPost b s r' w w'):Glob w' :=
 hP.2.cell hg (by intro e;injection e with e;exact h.ne_glob hg e.symm)
structure RSt (bx b:Nat) (s:ByteArray) (r:RS) (w:World):Prop where
 box:w.cell? ⟨bx,0,none⟩=some (.pointer (some ⟨b,0,none⟩))
 rd:Rdr b s r w
 gl:Glob w
theorem RSt.ne {bx b:Nat} {s:ByteArray} {r:RS} {w:World} (h:RSt bx b s r w):bx≠b:=by
 rintro rfl
 obtain ⟨ev,hE⟩:=h.rd
 obtain ⟨c0,_⟩:=hE.cells
 rw [h.box] at c0
 cases c0
theorem RSt.rpost {bx b:Nat} {s:ByteArray} {r r':RS} {w w':World} (h:RSt bx b s r w) (hP:RPost b s r' w w'):RSt bx b s r' w' :=
 ⟨hP.2.cell h.box (by intro e;injection e with e;exact h.ne e),hP.1,h.gl.rpost h.rd hP⟩
theorem RSt.below {bx b:Nat} {s:ByteArray} {r:RS} {w w':World} (h:RSt bx b s r w) (hb:Below w.heap.size w w'):RSt bx b s r w' :=
 ⟨(hb.cell (p:=⟨bx,0,none⟩) (qam h.box)).trans h.box,h.rd.below hb,h.gl.below hb⟩
theorem RSt.new {b:Nat} {s:ByteArray} {r:RS} {w:World} (h:Rdr b s r w) (hg:Glob w) (T:TypeId) (o:Obj):RSt w.heap.size b s r ((w.alloc (.cells #[.pointer (some ⟨b,0,none⟩)] T)).alloc o):=by
 have h1:RSt w.heap.size b s r (w.alloc (.cells #[.pointer (some ⟨b,0,none⟩)] T)):=⟨by rw [qkq];rfl,h.below (bel1 w _),hg.below (bel1 w _)⟩
 exact h1.below (bel1 _ _)
def qmb (cs:Array Value):Prop:=∀ o op t x,cs[o]?=some (.string op)→cs[o + 1]?=some (.iface t x)→False
theorem qce {w w':World} {g:Nat} {cs:Array Value} {T:TypeId} (hb:w.heap[g]?=some (.cells cs T (0,0))) (hn:qmb cs) (hg:w.grownBy w' (some g)) :
 ∀ {ops:List ByteArray} {c:Int} {v:Value},Chain w ops c v→Chain w' ops c v
 | [],_,_,h=>h
 | _ :: _,_,_,⟨b',o,u,h1,h2,h3,h4,h5⟩=>by
   have hne:b'≠g:=by
    rintro rfl
    rw [qad hb] at h2 h3
    obtain ⟨t,x,rfl⟩:=qar h4
    exact hn _ _ _ _ h2 h3
   exact ⟨b',o,u,h1,hg.cell h2 (by intro e;injection e with e;exact hne e),hg.cell h3 (by intro e;injection e with e;exact hne e),qce hb hn hg h4,by obtain ⟨c5,f5,h5⟩:=h5;exact ⟨c5,f5,(hg.block _ (Array.getElem?_eq_some_iff.1 h5).1 (by intro e;injection e with e;exact hne e)).trans h5⟩⟩
theorem Rdr.grown {b:Nat} {s:ByteArray} {r:RS} {w w':World} {g:Nat} {cs:Array Value} {T:TypeId} (h:Rdr b s r w) (hb:w.heap[g]?=some (.cells cs T (0,0))) (hn:qmb cs) (hg:w.grownBy w' (some g)) (hne:b≠g):Rdr b s r w':=by
 obtain ⟨ev,h1,h2,h3⟩:=h
 refine ⟨ev,h1,(hg.block b (qaa h2) (by intro e;injection e with e;exact hne e)).trans h2,?_⟩
 rcases h3 with h3 | ⟨h3,op,ops,hl,h4⟩
 ·exact Or.inl h3
 ·exact Or.inr ⟨h3,op,ops,hl,qce hb hn hg h4⟩
theorem RSt.grown {bx b:Nat} {s:ByteArray} {r:RS} {w w':World} {g:Nat} {cs:Array Value} {T:TypeId} (h:RSt bx b s r w) (hb:w.heap[g]?=some (.cells cs T (0,0))) (hn:qmb cs) (hg:w.grownBy w' (some g)) (hne:b < g) (hnx:bx < g) (hgl:0 < g):RSt bx b s r w' :=
 ⟨hg.cell h.box (by intro e;injection e with e;simp only at e;omega),h.rd.grown hb hn hg (by omega),hg.cell h.gl (by intro e;injection e with e;simp only at e;omega)⟩
theorem qbi {w a:World} {b g:Nat} (h:w.grownBy a (some b)) (hg:w.heap.size≤g) (j:Nat) (u:Value):w.grownBy (a.setCell ⟨g,j,none⟩ u) (some b):=by
 have k:=qag (World.grownBy.refl a (some g)) (p:=⟨g,j,none⟩) rfl u
 exact ⟨k.os.trans h.os,k.tape.trans h.tape,k.output.trans h.output,Nat.le_trans h.size k.size,fun i hi hne=>(k.block i (Nat.lt_of_lt_of_le hi h.size) (by intro e;injection e with e;omega)).trans (h.block i hi hne)⟩
theorem qnk {w a c:World} {b:Option Nat} {row:Option Nat} (h:w.grownBy a b) (k:a.grownBy c row) (hrow:∀ g,row=some g→w.heap.size≤g):w.grownBy c b :=
 ⟨k.os.trans h.os,k.tape.trans h.tape,k.output.trans h.output,Nat.le_trans h.size k.size,fun i hi hne=>(k.block i (Nat.lt_of_lt_of_le hi h.size) (by intro e;have:=hrow i e.symm;omega)).trans (h.block i hi hne)⟩
theorem qap {w w':World} {g b:Nat} {o:Obj} (h:w.heap[g]?=some o) (hg:w.grownBy w' (some b)) (hne:g≠b):w'.heap[g]?=some o :=
 (hg.block g (qaa h) (by intro e;injection e with e;exact hne e)).trans h
theorem num1_any (bx b:Nat) (s:ByteArray) (r r':RS) (n:Nat) (w:World) (h:RSt bx b s r w) (hs:s.size≤1000000) (hR:numR s.data.toList 2000000 r=(r',n)) :
 Calls Tryz.prog 162 #[.pointer (some ⟨bx,0,none⟩)] w fun e w'=>e=.returned (.int .i64 (n:Int))∧RSt bx b s r' w'∧w.grownBy w' (some b):=by
 have HC:Hid (Calls Tryz.prog 97 #[.pointer (some ⟨b,0,none⟩),.int .i64 2000000] w fun e w'=>e=.returned (.int .i64 (n:Int))∧RPost b s r' w w'):=by
  have:=qpf b s r 2000000 w h.rd h.gl hs
  rw [hR,show ((2000000:Nat):Int)=2000000 by omega] at this
  exact this
 have c0:=h.box
 have H:=hI h
 clear h hR
 go_enter Tryz.func162,Tryz.ntmps162
 go_wp2_with (go_at_call 97;refine HC.out.mono ?_;rintro e w' ⟨rfl,hP⟩;have HP:=hI hP;clear hP)
 go_ret
 exact ⟨rfl,H.out.rpost HP.out,HP.out.2⟩
theorem qwd:(Tryz.prog.info? 265).map (fun i=>(i.zero,i.size,i.bytes))=some (some (.agg #[.int .i64 0,.int .i64 0]),2,16):=by kernel_rfl
theorem qip {w:World} {g:Nat} {y0 y1 y2 y3 y4 y5 y6 y7 y8 y9 y10 y11 y12 y13:Value} {T:TypeId} (h:w.heap[g]?=some (.cells #[y0,y1,y2,y3,y4,y5,y6,y7,y8,y9,y10,y11,y12,y13] T (0,0))) (z0 z1 z2 z3 z4 z5 z6 z7 z8 z9 z10 z11 z12 z13:Value) :
 ((((((((((((((w.setCell ⟨g,0,none⟩ z0).setCell ⟨g,1,none⟩ z1).setCell ⟨g,2,none⟩ z2).setCell ⟨g,3,none⟩ z3).setCell ⟨g,4,none⟩ z4).setCell ⟨g,5,none⟩ z5).setCell ⟨g,6,none⟩ z6).setCell ⟨g,7,none⟩ z7).setCell ⟨g,8,none⟩ z8).setCell ⟨g,9,none⟩ z9).setCell ⟨g,10,none⟩ z10).setCell ⟨g,11,none⟩ z11).setCell ⟨g,12,none⟩ z12).setCell ⟨g,13,none⟩ z13).heap[g]?=some (.cells #[z0,z1,z2,z3,z4,z5,z6,z7,z8,z9,z10,z11,z12,z13] T (0,0)):=by
 have h0:(w.setCell ⟨g,0,none⟩ z0).heap[g]?=some (.cells #[z0,y1,y2,y3,y4,y5,y6,y7,y8,y9,y10,y11,y12,y13] T (0,0)):=qae h 0 z0
 have h1:((w.setCell ⟨g,0,none⟩ z0).setCell ⟨g,1,none⟩ z1).heap[g]?=some (.cells #[z0,z1,y2,y3,y4,y5,y6,y7,y8,y9,y10,y11,y12,y13] T (0,0)):=qae h0 1 z1
 have h2:(((w.setCell ⟨g,0,none⟩ z0).setCell ⟨g,1,none⟩ z1).setCell ⟨g,2,none⟩ z2).heap[g]?=some (.cells #[z0,z1,z2,y3,y4,y5,y6,y7,y8,y9,y10,y11,y12,y13] T (0,0)):=qae h1 2 z2
 have h3:((((w.setCell ⟨g,0,none⟩ z0).setCell ⟨g,1,none⟩ z1).setCell ⟨g,2,none⟩ z2).setCell ⟨g,3,none⟩ z3).heap[g]?=some (.cells #[z0,z1,z2,z3,y4,y5,y6,y7,y8,y9,y10,y11,y12,y13] T (0,0)):=qae h2 3 z3
 have h4:(((((w.setCell ⟨g,0,none⟩ z0).setCell ⟨g,1,none⟩ z1).setCell ⟨g,2,none⟩ z2).setCell ⟨g,3,none⟩ z3).setCell ⟨g,4,none⟩ z4).heap[g]?=some (.cells #[z0,z1,z2,z3,z4,y5,y6,y7,y8,y9,y10,y11,y12,y13] T (0,0)):=qae h3 4 z4
 have h5:((((((w.setCell ⟨g,0,none⟩ z0).setCell ⟨g,1,none⟩ z1).setCell ⟨g,2,none⟩ z2).setCell ⟨g,3,none⟩ z3).setCell ⟨g,4,none⟩ z4).setCell ⟨g,5,none⟩ z5).heap[g]?=some (.cells #[z0,z1,z2,z3,z4,z5,y6,y7,y8,y9,y10,y11,y12,y13] T (0,0)):=qae h4 5 z5
 have h6:(((((((w.setCell ⟨g,0,none⟩ z0).setCell ⟨g,1,none⟩ z1).setCell ⟨g,2,none⟩ z2).setCell ⟨g,3,none⟩ z3).setCell ⟨g,4,none⟩ z4).setCell ⟨g,5,none⟩ z5).setCell ⟨g,6,none⟩ z6).heap[g]?=some (.cells #[z0,z1,z2,z3,z4,z5,z6,y7,y8,y9,y10,y11,y12,y13] T (0,0)):=qae h5 6 z6
 have h7:((((((((w.setCell ⟨g,0,none⟩ z0).setCell ⟨g,1,none⟩ z1).setCell ⟨g,2,none⟩ z2).setCell ⟨g,3,none⟩ z3).setCell ⟨g,4,none⟩ z4).setCell ⟨g,5,none⟩ z5).setCell ⟨g,6,none⟩ z6).setCell ⟨g,7,none⟩ z7).heap[g]?=some (.cells #[z0,z1,z2,z3,z4,z5,z6,z7,y8,y9,y10,y11,y12,y13] T (0,0)):=qae h6 7 z7
 have h8:(((((((((w.setCell ⟨g,0,none⟩ z0).setCell ⟨g,1,none⟩ z1).setCell ⟨g,2,none⟩ z2).setCell ⟨g,3,none⟩ z3).setCell ⟨g,4,none⟩ z4).setCell ⟨g,5,none⟩ z5).setCell ⟨g,6,none⟩ z6).setCell ⟨g,7,none⟩ z7).setCell ⟨g,8,none⟩ z8).heap[g]?=some (.cells #[z0,z1,z2,z3,z4,z5,z6,z7,z8,y9,y10,y11,y12,y13] T (0,0)):=qae h7 8 z8
 have h9:((((((((((w.setCell ⟨g,0,none⟩ z0).setCell ⟨g,1,none⟩ z1).setCell ⟨g,2,none⟩ z2).setCell ⟨g,3,none⟩ z3).setCell ⟨g,4,none⟩ z4).setCell ⟨g,5,none⟩ z5).setCell ⟨g,6,none⟩ z6).setCell ⟨g,7,none⟩ z7).setCell ⟨g,8,none⟩ z8).setCell ⟨g,9,none⟩ z9).heap[g]?=some (.cells #[z0,z1,z2,z3,z4,z5,z6,z7,z8,z9,y10,y11,y12,y13] T (0,0)):=qae h8 9 z9
 have h10:(((((((((((w.setCell ⟨g,0,none⟩ z0).setCell ⟨g,1,none⟩ z1).setCell ⟨g,2,none⟩ z2).setCell ⟨g,3,none⟩ z3).setCell ⟨g,4,none⟩ z4).setCell ⟨g,5,none⟩ z5).setCell ⟨g,6,none⟩ z6).setCell ⟨g,7,none⟩ z7).setCell ⟨g,8,none⟩ z8).setCell ⟨g,9,none⟩ z9).setCell ⟨g,10,none⟩ z10).heap[g]?=some (.cells #[z0,z1,z2,z3,z4,z5,z6,z7,z8,z9,z10,y11,y12,y13] T (0,0)):=qae h9 10 z10
 have h11:((((((((((((w.setCell ⟨g,0,none⟩ z0).setCell ⟨g,1,none⟩ z1).setCell ⟨g,2,none⟩ z2).setCell ⟨g,3,none⟩ z3).setCell ⟨g,4,none⟩ z4).setCell ⟨g,5,none⟩ z5).setCell ⟨g,6,none⟩ z6).setCell ⟨g,7,none⟩ z7).setCell ⟨g,8,none⟩ z8).setCell ⟨g,9,none⟩ z9).setCell ⟨g,10,none⟩ z10).setCell ⟨g,11,none⟩ z11).heap[g]?=some (.cells #[z0,z1,z2,z3,z4,z5,z6,z7,z8,z9,z10,z11,y12,y13] T (0,0)):=qae h10 11 z11
 have h12:(((((((((((((w.setCell ⟨g,0,none⟩ z0).setCell ⟨g,1,none⟩ z1).setCell ⟨g,2,none⟩ z2).setCell ⟨g,3,none⟩ z3).setCell ⟨g,4,none⟩ z4).setCell ⟨g,5,none⟩ z5).setCell ⟨g,6,none⟩ z6).setCell ⟨g,7,none⟩ z7).setCell ⟨g,8,none⟩ z8).setCell ⟨g,9,none⟩ z9).setCell ⟨g,10,none⟩ z10).setCell ⟨g,11,none⟩ z11).setCell ⟨g,12,none⟩ z12).heap[g]?=some (.cells #[z0,z1,z2,z3,z4,z5,z6,z7,z8,z9,z10,z11,z12,y13] T (0,0)):=qae h11 12 z12
 have h13:((((((((((((((w.setCell ⟨g,0,none⟩ z0).setCell ⟨g,1,none⟩ z1).setCell ⟨g,2,none⟩ z2).setCell ⟨g,3,none⟩ z3).setCell ⟨g,4,none⟩ z4).setCell ⟨g,5,none⟩ z5).setCell ⟨g,6,none⟩ z6).setCell ⟨g,7,none⟩ z7).setCell ⟨g,8,none⟩ z8).setCell ⟨g,9,none⟩ z9).setCell ⟨g,10,none⟩ z10).setCell ⟨g,11,none⟩ z11).setCell ⟨g,12,none⟩ z12).setCell ⟨g,13,none⟩ z13).heap[g]?=some (.cells #[z0,z1,z2,z3,z4,z5,z6,z7,z8,z9,z10,z11,z12,z13] T (0,0)):=qae h12 13 z13
 exact h13
theorem grown14 {w a:World} {b g:Nat} (h:w.grownBy a (some b)) (hg:w.heap.size≤g) (z0 z1 z2 z3 z4 z5 z6 z7 z8 z9 z10 z11 z12 z13:Value):w.grownBy ((((((((((((((a.setCell ⟨g,0,none⟩ z0).setCell ⟨g,1,none⟩ z1).setCell ⟨g,2,none⟩ z2).setCell ⟨g,3,none⟩ z3).setCell ⟨g,4,none⟩ z4).setCell ⟨g,5,none⟩ z5).setCell ⟨g,6,none⟩ z6).setCell ⟨g,7,none⟩ z7).setCell ⟨g,8,none⟩ z8).setCell ⟨g,9,none⟩ z9).setCell ⟨g,10,none⟩ z10).setCell ⟨g,11,none⟩ z11).setCell ⟨g,12,none⟩ z12).setCell ⟨g,13,none⟩ z13) (some b) :=
 qbi (qbi (qbi (qbi (qbi (qbi (qbi (qbi (qbi (qbi (qbi (qbi (qbi (qbi h hg 0 z0) hg 1 z1) hg 2 z2) hg 3 z3) hg 4 z4) hg 5 z5) hg 6 z6) hg 7 z7) hg 8 z8) hg 9 z9) hg 10 z10) hg 11 z11) hg 12 z12) hg 13 z13
theorem qiq (a:World) (g:Nat) (z0 z1 z2 z3 z4 z5 z6 z7 z8 z9 z10 z11 z12 z13:Value):a.grownBy ((((((((((((((a.setCell ⟨g,0,none⟩ z0).setCell ⟨g,1,none⟩ z1).setCell ⟨g,2,none⟩ z2).setCell ⟨g,3,none⟩ z3).setCell ⟨g,4,none⟩ z4).setCell ⟨g,5,none⟩ z5).setCell ⟨g,6,none⟩ z6).setCell ⟨g,7,none⟩ z7).setCell ⟨g,8,none⟩ z8).setCell ⟨g,9,none⟩ z9).setCell ⟨g,10,none⟩ z10).setCell ⟨g,11,none⟩ z11).setCell ⟨g,12,none⟩ z12).setCell ⟨g,13,none⟩ z13) (some g) :=
 qag (qag (qag (qag (qag (qag (qag (qag (qag (qag (qag (qag (qag (qag (World.grownBy.refl a (some g)) (p:=⟨g,0,none⟩) rfl z0) (p:=⟨g,1,none⟩) rfl z1) (p:=⟨g,2,none⟩) rfl z2) (p:=⟨g,3,none⟩) rfl z3) (p:=⟨g,4,none⟩) rfl z4) (p:=⟨g,5,none⟩) rfl z5) (p:=⟨g,6,none⟩) rfl z6) (p:=⟨g,7,none⟩) rfl z7) (p:=⟨g,8,none⟩) rfl z8) (p:=⟨g,9,none⟩) rfl z9) (p:=⟨g,10,none⟩) rfl z10) (p:=⟨g,11,none⟩) rfl z11) (p:=⟨g,12,none⟩) rfl z12) (p:=⟨g,13,none⟩) rfl z13
theorem qrk {w a:World} {g:Nat} (h:Below w.heap.size w a) (hg:w.heap.size≤g) (z0 z1 z2 z3 z4 z5 z6 z7 z8 z9 z10 z11 z12 z13:Value):Below w.heap.size w ((((((((((((((a.setCell ⟨g,0,none⟩ z0).setCell ⟨g,1,none⟩ z1).setCell ⟨g,2,none⟩ z2).setCell ⟨g,3,none⟩ z3).setCell ⟨g,4,none⟩ z4).setCell ⟨g,5,none⟩ z5).setCell ⟨g,6,none⟩ z6).setCell ⟨g,7,none⟩ z7).setCell ⟨g,8,none⟩ z8).setCell ⟨g,9,none⟩ z9).setCell ⟨g,10,none⟩ z10).setCell ⟨g,11,none⟩ z11).setCell ⟨g,12,none⟩ z12).setCell ⟨g,13,none⟩ z13) :=
 (((((((((((((h.setCell (p:=⟨g,0,none⟩) hg z0).setCell (p:=⟨g,1,none⟩) hg z1).setCell (p:=⟨g,2,none⟩) hg z2).setCell (p:=⟨g,3,none⟩) hg z3).setCell (p:=⟨g,4,none⟩) hg z4).setCell (p:=⟨g,5,none⟩) hg z5).setCell (p:=⟨g,6,none⟩) hg z6).setCell (p:=⟨g,7,none⟩) hg z7).setCell (p:=⟨g,8,none⟩) hg z8).setCell (p:=⟨g,9,none⟩) hg z9).setCell (p:=⟨g,10,none⟩) hg z10).setCell (p:=⟨g,11,none⟩) hg z11).setCell (p:=⟨g,12,none⟩) hg z12).setCell (p:=⟨g,13,none⟩) hg z13
theorem qbw {w:World} {g:Nat} {z0 z1 z2 z3 z4 z5 z6 z7 z8 z9 z10 z11 z12 z13:Value} {T:TypeId} (h:w.heap[g]?=some (.cells #[z0,z1,z2,z3,z4,z5,z6,z7,z8,z9,z10,z11,z12,z13] T (0,0))) :
 w.cell? ⟨g,0,none⟩=some z0∧w.frozen? ⟨g,0,none⟩=false∧w.cell? ⟨g,1,none⟩=some z1∧w.frozen? ⟨g,1,none⟩=false∧w.cell? ⟨g,2,none⟩=some z2∧w.frozen? ⟨g,2,none⟩=false∧w.cell? ⟨g,3,none⟩=some z3∧w.frozen? ⟨g,3,none⟩=false∧w.cell? ⟨g,4,none⟩=some z4∧w.frozen? ⟨g,4,none⟩=false∧w.cell? ⟨g,5,none⟩=some z5∧w.frozen? ⟨g,5,none⟩=false∧w.cell? ⟨g,6,none⟩=some z6∧w.frozen? ⟨g,6,none⟩=false∧w.cell? ⟨g,7,none⟩=some z7∧w.frozen? ⟨g,7,none⟩=false∧w.cell? ⟨g,8,none⟩=some z8∧w.frozen? ⟨g,8,none⟩=false∧w.cell? ⟨g,9,none⟩=some z9∧w.frozen? ⟨g,9,none⟩=false∧w.cell? ⟨g,10,none⟩=some z10∧w.frozen? ⟨g,10,none⟩=false∧w.cell? ⟨g,11,none⟩=some z11∧w.frozen? ⟨g,11,none⟩=false∧w.cell? ⟨g,12,none⟩=some z12∧w.frozen? ⟨g,12,none⟩=false∧w.cell? ⟨g,13,none⟩=some z13∧w.frozen? ⟨g,13,none⟩=false:=by
 refine ⟨?_,?_,?_,?_,?_,?_,?_,?_,?_,?_,?_,?_,?_,?_,?_,?_,?_,?_,?_,?_,?_,?_,?_,?_,?_,?_,?_,?_⟩
 all_goals first | exact Lib.frozen_of_heap h _ | (rw [qad h];rfl)
def ReadP (b:Nat) (s:ByteArray) (w:World) (e:Ending) (w':World):Prop:=∃ aA aC mA mC,e=.returned (.tuple #[msgV (pmOf (qbd s.data.toList) aA aC mA mC),.bool (decide ((qbd s.data.toList).l.length % 2=0))])∧RdM w' (pmOf (qbd s.data.toList) aA aC mA mC)∧RPost b s (qbd s.data.toList).r w w'∧(∀ a,aA=some a→w.heap.size≤a.block)∧(∀ a,mA=some a→w.heap.size≤a.block)
def ReadL (g:Nat) (cs:Value→Array Value) (l:List Nat) (W:World) (iv:Value) (wr:World):Prop:=∃ (k i:Nat) (v:Value),iv=.int .i64 ((i:Int) + 1)∧i=2 * k∧i≤l.length∧wr.heap[g]?=some (.cells (cs v) 247 (0,0))∧wr.ownsRow W.heap.size 265 2 v (unfl (l.take i)).toArray.size (flatK encA 2 (unfl (l.take i)).toArray).toList∧W.grownBy wr (some g)
end Go.Proofs.YtjkecckndfcbjaaGreatDoor
