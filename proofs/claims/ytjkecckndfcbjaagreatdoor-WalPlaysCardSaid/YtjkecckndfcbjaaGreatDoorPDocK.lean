/- Texts that the law leans on. -/
import Derived.Deep.CutRange
import Derived.Deep.CutBlock
import Derived.Test.YtjkecckndfcbjaaGreatDoorPRecA
import Derived.Test.YtjkecckndfcbjaaGreatDoorPDocX
import Derived.Test.YtjkecckndfcbjaaGreatDoorPDocR
import Derived.Test.YtjkecckndfcbjaaGreatDoorPDocT
namespace Go.Proofs.YtjkecckndfcbjaaGreatDoor
open Go.RowKit Go.Sort Nb
attribute [local go_sem ↓] Go.wp_at_zero Go.wp_at_succ
set_option maxRecDepth 100000 in
theorem qey (r:PR) (w:World) (hd:r.dt.size≤1000000) (h0:recC r≠0) :
 Calls Tryz.prog 81 #[recV r] w fun e w'=>e=.returned (.tuple #[.string ⟨#[]⟩,.int .i64 2])∧Below w.heap.size w w':=by
 have HC:=hI (fun W=>qhc r W hd)
 have h2:=(qla r).resolve_left h0
 rw [h2] at HC
 unfold recV at HC ⊢
 clear hd h0 h2
 go_enter Tryz.func81,Tryz.ntmps81
 go_wp2_with (go_at_call 110;refine (HC.out _).mono ?_;rintro e w1 ⟨rfl,hb1⟩;have HB1:=hI (qad (bel1 w _) hb1);clear hb1)
 go_ret2
 exact ⟨rfl,HB1.out⟩
def PutQ (w1:World) (y:ByteArray) (v:Value) (wx:World):Prop:=∃ g,v=.pointer (some ⟨g,0,none⟩)∧wx.cell? ⟨g,0,none⟩=some (.string y)∧wx.cell? ⟨g,1,none⟩=some (.string ⟨#[]⟩)∧wx.cell? ⟨g,2,none⟩=some (.int .i64 0)∧(wx.frozen? ⟨g,0,none⟩=false∧wx.frozen? ⟨g,1,none⟩=false∧wx.frozen? ⟨g,2,none⟩=false)∧w1.heap.size≤g∧g < wx.heap.size∧Below w1.heap.size w1 wx
set_option maxRecDepth 100000 in
set_option maxHeartbeats 8000000 in
theorem qfr (r:PR) (w:World) (hd:r.dt.size≤1000000) (h0:recC r=0) :
 Calls Tryz.prog 81 #[recV r] w fun e w'=>e=.returned (.tuple #[.string ⟨(recB r).toArray⟩,.int .i64 0])∧Below w.heap.size w w':=by
 have HC:=hI (fun W=>qhc r W hd)
 rw [h0] at HC
 obtain ⟨h1,h2,h3,h4,hT,hF⟩:=qfv h0
 have HMB:Hid (recB r=numB r.ep.toNat ++ numB r.sq.toNat ++ qer r.sn ++ (if r.sn then qdf r.st.data.toList else numB r.k.toNat ++ qdf r.dt.data.toList)):=rfl
 generalize recB r=bs at HMB ⊢
 unfold recV at HC ⊢
 obtain ⟨ep,sq,sn,k,dt,st⟩:=r
 dsimp only at HC HMB h1 h2 h3 h4 hT hF hd ⊢
 have l2:((nats #[ep,sq]).flatMap numB).length≤18:=by have:=qdx _ (layN2 ⟨by omega,h2⟩ ⟨h3,h4⟩:LayN #[ep,sq]).nats;rw [qdy] at this;exact this
 have HN2:Hid (∀ (W:World) (g:Nat),W.heap[g]?=some (.cells #[.int .i64 ep,.int .i64 sq] 3 (0,0))→Calls Tryz.prog 118 #[.agg #[.string ⟨#[]⟩,.string ⟨#[]⟩,.int .i64 0],.slice (some ⟨g,0,none⟩) 2 2] W fun e w'=>e=.returned (outV (⟨#[]⟩ ++ ⟨((nats #[ep,sq]).flatMap numB).toArray⟩))∧Below W.heap.size W w'):=fun W g h=>qtz ⟨#[]⟩ (some ⟨g,0,none⟩) 2 #[ep,sq] W (rdI_blk (by rw [h];simp [encI])) (layN2 ⟨by omega,h2⟩ ⟨h3,h4⟩) (by show 2≤10000;omega) (by decide)
 have e2:(nats #[ep,sq]).flatMap numB=numB ep.toNat ++ numB sq.toNat:=by simp [nats]
 have HE2:Hid ((⟨((nats #[ep,sq]).flatMap numB).toArray⟩:ByteArray)=⟨(numB ep.toNat ++ numB sq.toNat).toArray⟩):=by show _=_;rw [e2]
 have b2:(⟨((nats #[ep,sq]).flatMap numB).toArray⟩:ByteArray).size≤18:=by rw [qaz];exact l2
 generalize (⟨((nats #[ep,sq]).flatMap numB).toArray⟩:ByteArray)=y2 at HN2 HE2 b2
 have hc2:(⟨#[]⟩:ByteArray) ++ y2=y2:=by apply ByteArray.ext;simp
 rw [hc2] at HN2
 have HFL:=hI (fun (W:World)=>qsb y2 sn W (by omega))
 unfold outV at HN2 HFL
 clear h0 h1 h2 h3 h4 e2 l2 hc2
 have hnb:=hd
 clear hd
 go_enter Tryz.func81,Tryz.ntmps81
 go_wp2_with fail
 refine (HC.out _).mono ?_
 rintro e w1 ⟨rfl,hb1⟩
 have hlt:w.heap.size < w1.heap.size:=qaa (qbz hb1)
 have KB:=hI (qbz hb1)
 have HB1:=hI (qad (bel1 w _) hb1)
 clear hb1 HC
 go_upto_region 3 with (fail)
 go_cut [4] from 8 to 17 (fun v wx=>PutQ w1 (y2 ++ ⟨(qer sn).toArray⟩) v wx)
 case first =>
  have KS:Hid (∀ W,Below w1.heap.size w1 W→Below w1.heap.size w1 W∧W.cell? ⟨w.heap.size,0,none⟩=some (.int .i64 ep)∧W.cell? ⟨w.heap.size,1,none⟩=some (.int .i64 sq)∧W.cell? ⟨w.heap.size,2,none⟩=some (.bool sn)):=fun W hb=>by
   obtain ⟨⟨c0,c1,c2,-,-,-⟩,-⟩:=qbg ((hb.block _ hlt).trans KB.out)
   exact ⟨hb,c0,c1,c2⟩
  have hb0:Below w1.heap.size w1 w1:=Below.refl _ _
  have kk0:w1.heap.size < w1.heap.size + 1 + 1:=by omega
  go_wp2_with fail
  go_region_held3 (fun W=>Below w1.heap.size w1 W∧W.cell? ⟨w.heap.size,0,none⟩=some (.int .i64 ep)∧W.cell? ⟨w.heap.size,1,none⟩=some (.int .i64 sq)∧W.cell? ⟨w.heap.size,2,none⟩=some (.bool sn)) (first | assumption | exact KS.out _ (by first | assumption | exact Below.drew (by assumption) | exact qab (by assumption) _ | exact (qab (by assumption) _).drew | exact (qab (qab (by assumption) _) _).drew | exact qab (qab (by assumption) _) _ | exact bel3 (by assumption) (by first | omega | (simp;done) | (simp;omega)) _ _ _))
   (first
     | (go_at_call 118;((with_reducible refine (HN2.out _ _ (by first | exact hA1 w1 _ | exact hA2 w1 _ _ | exact hA3 w1 _ _)).mono ?_);rintro e w2 ⟨rfl,hb2⟩;have hbA:Below w1.heap.size w1 w2:=qad (by first | exact (qab hb0 _).drew | exact (qab (qab hb0 _) _).drew) hb2;obtain ⟨hc2,hf2⟩:=bcell hb2;have hz2:=hb2.size;simp only [World.size_drew,World.size_alloc] at hz2;have k21:w1.heap.size < w2.heap.size:=(by omega);(try have k22:w1.heap.size + 1 < w2.heap.size:=(by omega));clear hb2))
     | (go_at_call 117;((with_reducible refine (HFL.out _).mono ?_);rintro e w3 ⟨rfl,hb3⟩;have hbB:Below w1.heap.size w1 w3:=qad (by first | exact hbA | exact qab hbA _) hb3;obtain ⟨hc3,hf3⟩:=bcell hb3;have hz3:=hb3.size;(try simp only [World.size_alloc] at hz3);have k31:w1.heap.size < w3.heap.size:=(by omega);(try have k32:w1.heap.size + 1 < w3.heap.size:=(by omega));(try have k33:w2.heap.size < w3.heap.size:=(by omega));clear hb3)))
  all_goals
   go_wp2
   go_meet
   refine ⟨_,rfl,?_,?_,?_,⟨?_,?_,?_⟩,?_,?_,?_⟩
   all_goals first
    | (go_simp;done)
    | omega
    | (simp;done)
    | (simp;omega)
    | exact qab hbB _
    | exact bel3 hbB (by omega) _ _ _
 have hfl:(qer sn).length=1:=by cases sn <;> rfl
 obtain ⟨g,rfl,o0,o1,o2,⟨g0,g1,g2⟩,hg1,hg2,hbx⟩:=hcut
 have B4:=hI hbx
 have KB4:Hid (∀ W,Below wc.heap.size wc W→W.heap[w.heap.size]?=some (.cells #[.int .i64 ep,.int .i64 sq,.bool sn,.int .i64 k,.string dt,.string st] 139 (0,0))):=fun W hb=>(hb.block _ (Nat.lt_of_lt_of_le hlt hbx.size)).trans ((hbx.block _ hlt).trans KB.out)
 clear hbx KB
 obtain ⟨⟨-,-,c2,c3,c4,c5⟩,-⟩:=qbg (KB4.out wc (Below.refl _ _))
 have hs1:(⟨(qer sn).toArray⟩:ByteArray).size=1:=by rw [qaz];exact hfl
 have b3:(y2 ++ ⟨(qer sn).toArray⟩:ByteArray).size≤19:=by rw [ByteArray.size_append,hs1];omega
 have HY3:Hid ((y2 ++ ⟨(qer sn).toArray⟩:ByteArray)=⟨(numB ep.toNat ++ numB sq.toNat ++ qer sn).toArray⟩):=by
  show _=_
  rw [HE2.out]
  apply ByteArray.ext
  simp
 generalize (y2 ++ ⟨(qer sn).toArray⟩:ByteArray)=y3 at o0 b3 HY3
 clear HE2 b2 HN2 HFL hfl hs1
 have zw:w.heap.size < wc.heap.size:=by omega
 cases sn
 ·obtain ⟨k1,k3,hdl,-⟩:=hF rfl
  have HN1:Hid (∀ (W:World) (g:Nat),W.heap[g]?=some (.cells #[.int .i64 k] 3 (0,0))→Calls Tryz.prog 118 #[.agg #[.string y3,.string ⟨#[]⟩,.int .i64 0],.slice (some ⟨g,0,none⟩) 1 1] W fun e w'=>e=.returned (outV (y3 ++ ⟨((nats #[k]).flatMap numB).toArray⟩))∧Below W.heap.size W w'):=fun W g h=>qtz y3 (some ⟨g,0,none⟩) 1 #[k] W (rdI_blk (by rw [h];simp [encI])) (layN1 ⟨by omega,by omega⟩) (by show 1≤10000;omega) (by omega)
  have l1:((nats #[k]).flatMap numB).length≤9:=by have:=qdx _ (layN1 ⟨by omega,by omega⟩:LayN #[k]).nats;rw [qdy] at this;exact this
  have e1:(nats #[k]).flatMap numB=numB k.toNat:=by simp [nats]
  have bk:(⟨((nats #[k]).flatMap numB).toArray⟩:ByteArray).size≤9:=by rw [qaz];exact l1
  have HYK:Hid ((⟨((nats #[k]).flatMap numB).toArray⟩:ByteArray)=⟨(numB k.toNat).toArray⟩):=by show _=_;rw [e1]
  generalize (⟨((nats #[k]).flatMap numB).toArray⟩:ByteArray)=yk at HN1 bk HYK
  have HTX:=hI (fun (W:World)=>qkn (y3 ++ yk) dt W (by rw [ByteArray.size_append];omega))
  unfold outV at HTX HN1
  generalize hyt:(⟨(qdf dt.data.toList).toArray⟩:ByteArray)=yt at HTX
  have HYT:=hI hyt
  clear hT hF hyt e1 l1
  have KS:Hid (∀ W,Below wc.heap.size wc W→W.cell? ⟨g,0,none⟩=some (.string y3)∧W.cell? ⟨g,1,none⟩=some (.string ⟨#[]⟩)∧W.cell? ⟨g,2,none⟩=some (.int .i64 0)∧W.cell? ⟨w.heap.size,3,none⟩=some (.int .i64 k)∧W.cell? ⟨w.heap.size,4,none⟩=some (.string dt)):=fun W hb=>by
   obtain ⟨⟨-,-,-,d3,d4,-⟩,-⟩:=qbg (KB4.out W hb)
   exact ⟨(hb.cell (p:=⟨g,0,none⟩) hg2).trans o0,(hb.cell (p:=⟨g,1,none⟩) hg2).trans o1,(hb.cell (p:=⟨g,2,none⟩) hg2).trans o2,d3,d4⟩
  have KF:Hid (∀ W,Below wc.heap.size wc W→W.frozen? ⟨g,0,none⟩=false∧W.frozen? ⟨g,1,none⟩=false∧W.frozen? ⟨g,2,none⟩=false∧g < W.heap.size):=fun W hb=>⟨(hb.frozen (p:=⟨g,0,none⟩) hg2).trans g0,(hb.frozen (p:=⟨g,1,none⟩) hg2).trans g1,(hb.frozen (p:=⟨g,2,none⟩) hg2).trans g2,Nat.lt_of_lt_of_le hg2 hb.size⟩
  clear c3 c4 c5 o0 o1 o2 g0 g1 g2
  go_wp2_with fail
  refine qgy (S:=fun W=>W.cell? ⟨g,0,none⟩=some (.string y3)∧W.cell? ⟨g,1,none⟩=some (.string ⟨#[]⟩)∧W.cell? ⟨g,2,none⟩=some (.int .i64 0)∧W.cell? ⟨w.heap.size,3,none⟩=some (.int .i64 k)∧W.cell? ⟨w.heap.size,4,none⟩=some (.string dt)) (by kernel_rfl) ?_
  have hS:=KS.out wc.drew (Below.refl _ _).drew
  refine qcq (i:=0) (v:=?_) rfl (by kernel_rfl) (by kernel_rfl) (by kernel_rfl) (fun _ _ _ h=>h) (Or.inl ⟨by rfl,?_⟩) hS ?_
  rotate_left
  ·(intro W hW;(try dsimp only at hW);go_simp;with_reducible rfl)
  simp only [Act.put,List.setIfInBounds_toArray]
  refine qcq (i:=1) (v:=?_) rfl (by kernel_rfl) (by kernel_rfl) (by kernel_rfl) (fun _ _ _ h=>h) (Or.inl ⟨by rfl,?_⟩) hS ?_
  rotate_left
  ·(intro W hW;(try dsimp only at hW);go_simp;with_reducible rfl)
  simp only [Act.put]
  refine qcq (i:=2) (v:=?_) rfl (by kernel_rfl) (by kernel_rfl) (by kernel_rfl) (fun _ _ _ h=>h) (Or.inl ⟨by rfl,?_⟩) hS ?_
  rotate_left
  ·(intro W hW;(try dsimp only at hW);go_simp;with_reducible rfl)
  simp only [Act.put]
  refine qcq (i:=3) (v:=?_) rfl (by kernel_rfl) (by kernel_rfl) (by kernel_rfl) (fun _ _ _ h=>h) (Or.inl ⟨by rfl,?_⟩) hS ?_
  rotate_left
  ·(intro W hW;(try dsimp only at hW);go_simp;with_reducible rfl)
  simp only [Act.put]
  refine qcq (i:=6) (v:=?_) rfl (by kernel_rfl) (by kernel_rfl) (by kernel_rfl) (fun _ _ _ h=>h) (Or.inl ⟨by rfl,?_⟩) hS ?_
  rotate_left
  ·(intro W hW;(try dsimp only at hW);go_simp;with_reducible rfl)
  simp only [Act.put]
  refine qcq (i:=7) (v:=?_) rfl (by kernel_rfl) (by kernel_rfl) (by kernel_rfl) (fun _ _ _ h=>h) (Or.inl ⟨by rfl,?_⟩) hS ?_
  rotate_left
  ·(intro W hW;(try dsimp only at hW);go_simp;with_reducible rfl)
  simp only [Act.put]
  refine qcq (i:=8) (v:=?_) rfl (by kernel_rfl) (by kernel_rfl) (by kernel_rfl) (fun _ _ _ h=>h) (Or.inl ⟨by rfl,?_⟩) hS ?_
  rotate_left
  ·(intro W hW;(try dsimp only at hW);go_simp;with_reducible rfl)
  simp only [Act.put]
  refine rdy1 4 rfl (fun K hK=>?_)
  go_simp
  refine hK.out _ _ (KS.out _ (qab (Below.refl _ _).drew _)) (fun _=>?_)
  clear hK K
  refine rdy1 5 rfl (fun K hK=>?_)
  go_simp
  refine (HN1.out _ _ (hA1 wc _)).mono ?_
  rintro e w5 ⟨rfl,hb5⟩
  have B5:=hI (qad (bel1 wc _).drew hb5)
  clear hb5
  refine hK.out _ _ (KS.out _ B5.out) (fun _=>?_)
  clear hK K
  refine rdy1 9 rfl (fun K hK=>?_)
  go_simp
  refine (HTX.out _).mono ?_
  rintro e w6 ⟨rfl,hb6⟩
  have B6:=hI (qad B5.out hb6)
  clear hb6
  refine hK.out _ _ (KS.out _ B6.out) (fun _=>?_)
  clear hK K
  obtain ⟨o0,o1,o2,-,-⟩:=KS.out w6 B6.out
  obtain ⟨g0,g1,g2,hz6⟩:=KF.out w6 B6.out
  refine rdyL 10 rfl (fun K hK=>?_)
  go_simp
  refine hK.out _ _ ?_
  clear hK K
  refine qgx (by kernel_rfl) ?_ _
  go_wp2
  go_ret2
  refine ⟨?_,qad HB1.out (bel3 (B4.out.trans (B6.out.mono B4.out.size)) hg1 _ _ _)⟩
  rw [HMB.out,←HYT.out,HY3.out,HYK.out]
  simp
  apply ByteArray.ext
  simp
 ·obtain ⟨-,-,hst⟩:=hT rfl
  have HTX:=hI (fun (W:World)=>qkn y3 st W (by omega))
  unfold outV at HTX
  have hbe:(⟨(qdf st.data.toList).toArray⟩:ByteArray)=⟨(qdf st.data.toList).toArray⟩:=rfl
  generalize hyt:(⟨(qdf st.data.toList).toArray⟩:ByteArray)=yt at HTX
  have HYT:=hI hyt
  clear hT hF hbe hyt
  go_wp2_with fail
  refine (HTX.out _).mono ?_
  rintro e w5 ⟨rfl,hb5⟩
  obtain ⟨hc5,hf5⟩:=bcell hb5
  have hz5:g < w5.heap.size:=Nat.lt_of_lt_of_le hg2 hb5.size
  have B5:=hI (B4.out.trans (hb5.mono B4.out.size))
  have p0:=(hc5 g 0 hg2).trans o0
  have p1:=(hc5 g 1 hg2).trans o1
  have p2:=(hc5 g 2 hg2).trans o2
  have r0:=(hf5 g 0 hg2).trans g0
  have r1:=(hf5 g 1 hg2).trans g1
  have r2:=(hf5 g 2 hg2).trans g2
  clear hb5 hc5 hf5 o0 o1 o2 g0 g1 g2
  go_wp2
  go_ret2
  refine ⟨?_,qad HB1.out (bel3 B5.out hg1 _ _ _)⟩
  rw [HMB.out,←HYT.out,HY3.out]
  simp
  apply ByteArray.ext
  simp
end Go.Proofs.YtjkecckndfcbjaaGreatDoor
namespace Go.Proofs.YtjkecckndfcbjaaGreatDoor
open Go.RowKit Go.Sort Nb
theorem flagR_pos {s:List UInt8} {r:RS} (h:r.pos≤s.length):(qdu s r).1.pos≤s.length:=by
 rcases hf:qdu s r with ⟨r',b⟩
 by_cases he:r'.e=0
 ·exact (qmw hf he).2.2 h
 ·unfold qdu at hf
  (repeat' split at hf) <;> (injection hf with h1 h2;subst h1;first | exact h | (exfalso;exact he rfl))
structure JS (w:World) (gI:Nat) (s:ByteArray) (r:RS) (pc:ByteArray) (W:World):Prop where
 rz:W.heap[w.heap.size]?=some (.cells #[.int .i64 0,.int .i64 0,.bool false,.int .i64 0,.string ⟨#[]⟩,.string ⟨#[]⟩] 139 (0,0))
 ri:W.heap[gI]?=some (.cells #[.string s,.int .i64 (r.pos:Int),.string pc,.int .i64 (r.e:Int)] 175 (0,0))
 b:Below w.heap.size w W
 g:w.heap.size < gI
theorem JS.below {w:World} {gI:Nat} {s pc:ByteArray} {r:RS} {W W':World} (h:JS w gI s r pc W) (hb:Below W.heap.size W W'):JS w gI s r pc W' :=
 ⟨(hb.block _ (qaa h.rz)).trans h.rz,(hb.block _ (qaa h.ri)).trans h.ri,qad h.b hb,h.g⟩
theorem farI {w:World} {g i:Nat} (hi:i≠g) (a b c d:Value):((((w.setCell ⟨g,0,none⟩ a).setCell ⟨g,1,none⟩ b).setCell ⟨g,2,none⟩ c).setCell ⟨g,3,none⟩ d).heap[i]?=w.heap[i]?:=by
 rw [Below.heap_setCell _ _ _ _ hi,Below.heap_setCell _ _ _ _ hi,Below.heap_setCell _ _ _ _ hi,Below.heap_setCell _ _ _ _ hi]
theorem JS.set {w:World} {gI:Nat} {s pc:ByteArray} {r:RS} {W:World} (h:JS w gI s r pc W) (r':RS) (pc':ByteArray):JS w gI s r' pc' ((((W.setCell ⟨gI,0,none⟩ (.string s)).setCell ⟨gI,1,none⟩ (.int .i64 (r'.pos:Int))).setCell ⟨gI,2,none⟩ (.string pc')).setCell ⟨gI,3,none⟩ (.int .i64 (r'.e:Int))) :=
 ⟨(farI (by have:=h.g;omega) _ _ _ _).trans h.rz,heap4 h.ri _ _ _ _,bel4 h.b (by have:=h.g;omega) _ _ _ _,h.g⟩
theorem JS.setO {w:World} {gI gO:Nat} {s pc:ByteArray} {r:RS} {W:World} (h:JS w gI s r pc W) (h1:gI < gO) (j:Nat) (v:Value):JS w gI s r pc (W.setCell ⟨gO,j,none⟩ v) :=
 ⟨(Below.heap_setCell _ _ _ _ (by have:=h.g;show w.heap.size≠gO;omega)).trans h.rz,(Below.heap_setCell _ _ _ _ (by show gI≠gO;omega)).trans h.ri,h.b.setCell (p:=⟨gO,j,none⟩) (by have:=h.g;show w.heap.size≤gO;omega) v,h.g⟩
def DRTakeP (s:ByteArray) (e:Ending):Prop:=∃ r,e=.returned (.tuple #[recV r,.int .i64 (rtC s.data.toList:Int)])∧(rtC s.data.toList≠0→r=zR)∧(rtC s.data.toList=0→r=recO s.data.toList)
set_option maxRecDepth 100000 in
set_option maxHeartbeats 8000000 in
theorem qps (s:ByteArray) (w:World) (hs:s.size≤1000000) :
 Calls Tryz.prog 70 #[.string s] w fun e w'=>DRTakeP s e∧Below w.heap.size w w':=by
 have hsl:s.data.toList.length=s.size:=by simp
 have HNM:Hid (∀ (pc:ByteArray) (r r':RS) (n:Nat) (W:World),r.pos≤s.size→numR s.data.toList 1000000 r=(r',n)→Calls Tryz.prog 106 #[.agg #[.string s,.int .i64 (r.pos:Int),.string pc,.int .i64 (r.e:Int)],.int .i64 1000000] W fun e w'=>Below W.heap.size W w'∧∃ pc',e=.returned (.tuple #[.agg #[.string s,.int .i64 (r'.pos:Int),.string pc',.int .i64 (r'.e:Int)],.int .i64 (n:Int)])):=fun pc r r' n W hp hR=>by
  have:=qnl s pc r 1000000 W hp hs
  rw [hR,show ((1000000:Nat):Int)=1000000 by omega] at this
  exact this
 have HNK:Hid (∀ (pc:ByteArray) (r r':RS) (n:Nat) (W:World),r.pos≤s.size→numR s.data.toList 9 r=(r',n)→Calls Tryz.prog 106 #[.agg #[.string s,.int .i64 (r.pos:Int),.string pc,.int .i64 (r.e:Int)],.int .i64 9] W fun e w'=>Below W.heap.size W w'∧∃ pc',e=.returned (.tuple #[.agg #[.string s,.int .i64 (r'.pos:Int),.string pc',.int .i64 (r'.e:Int)],.int .i64 (n:Int)])):=fun pc r r' n W hp hR=>by
  have:=qnl s pc r 9 W hp hs
  rw [hR,show ((9:Nat):Int)=9 by omega] at this
  exact this
 have HTS:Hid (∀ (pc:ByteArray) (r r':RS) (n:List UInt8) (W:World),r.pos≤s.size→qcb s.data.toList 18000 r=(r',n)→Calls Tryz.prog 108 #[.agg #[.string s,.int .i64 (r.pos:Int),.string pc,.int .i64 (r.e:Int)],.int .i64 18000] W fun e w'=>Below W.heap.size W w'∧∃ pc',e=.returned (.tuple #[.agg #[.string s,.int .i64 (r'.pos:Int),.string pc',.int .i64 (r'.e:Int)],.string ⟨n.toArray⟩])):=fun pc r r' n W hp hR=>by
  have:=qkm s pc r 18000 W hp hs
  rw [hR,show ((18000:Nat):Int)=18000 by omega] at this
  exact this
 have HTD:Hid (∀ (pc:ByteArray) (r r':RS) (n:List UInt8) (W:World),r.pos≤s.size→qcb s.data.toList 5000 r=(r',n)→Calls Tryz.prog 108 #[.agg #[.string s,.int .i64 (r.pos:Int),.string pc,.int .i64 (r.e:Int)],.int .i64 5000] W fun e w'=>Below W.heap.size W w'∧∃ pc',e=.returned (.tuple #[.agg #[.string s,.int .i64 (r'.pos:Int),.string pc',.int .i64 (r'.e:Int)],.string ⟨n.toArray⟩])):=fun pc r r' n W hp hR=>by
  have:=qkm s pc r 5000 W hp hs
  rw [hR,show ((5000:Nat):Int)=5000 by omega] at this
  exact this
 have HFL:Hid (∀ (pc:ByteArray) (r r':RS) (n:Bool) (W:World),r.pos≤s.size→qdu s.data.toList r=(r',n)→Calls Tryz.prog 107 #[.agg #[.string s,.int .i64 (r.pos:Int),.string pc,.int .i64 (r.e:Int)]] W fun e w'=>Below W.heap.size W w'∧∃ pc',e=.returned (.tuple #[.agg #[.string s,.int .i64 (r'.pos:Int),.string pc',.int .i64 (r'.e:Int)],.bool n])):=fun pc r r' n W hp hR=>by
  have:=rFlag_any s pc r W hp hs
  rw [hR] at this
  exact this
 have HEN:Hid (∀ (pc:ByteArray) (r r':RS) (W:World),r'=endR s.data.toList r→Calls Tryz.prog 109 #[.agg #[.string s,.int .i64 (r.pos:Int),.string pc,.int .i64 (r.e:Int)]] W fun e w'=>Below W.heap.size W w'∧∃ pc',e=.returned (.agg #[.string s,.int .i64 (r'.pos:Int),.string pc',.int .i64 (r'.e:Int)])):=fun pc r r' W hR=>by
  have:=qty s pc r W
  rw [←hR] at this
  exact this
 have HN0:Hid (∀ (r':RS) (n:Nat) (W:World),numR s.data.toList 1000000 ⟨0,0⟩=(r',n)→Calls Tryz.prog 106 #[.agg #[.string s,.int .i64 0,.string ⟨#[]⟩,.int .i64 0],.int .i64 1000000] W fun e w'=>Below W.heap.size W w'∧∃ pc',e=.returned (.tuple #[.agg #[.string s,.int .i64 (r'.pos:Int),.string pc',.int .i64 (r'.e:Int)],.int .i64 (n:Int)])):=fun r' n W hR=>HNM.out ⟨#[]⟩ ⟨0,0⟩ r' n W (Nat.zero_le _) hR
 have HCK:=hI (fun (r:PR) (W:World) (hd:r.dt.size≤1000000)=>qhc r W hd)
 have HRA:Hid (recA s.data.toList=numR s.data.toList 1000000 ⟨0,0⟩):=rfl
 have HRQ:Hid (recQ s.data.toList=numR s.data.toList 1000000 (recA s.data.toList).1):=rfl
 have HRF:Hid (recF s.data.toList=qdu s.data.toList (recQ s.data.toList).1):=rfl
 have HRS:Hid (recS s.data.toList=qcb s.data.toList 18000 (recF s.data.toList).1):=rfl
 have HRK:Hid (recK s.data.toList=numR s.data.toList 9 (recF s.data.toList).1):=rfl
 have HRD:Hid (recD s.data.toList=qcb s.data.toList 5000 (recK s.data.toList).1):=rfl
 have HRR:Hid (recR s.data.toList=if (recF s.data.toList).2 then endR s.data.toList (recS s.data.toList).1 else endR s.data.toList (recD s.data.toList).1):=rfl
 have HRO:Hid (recO s.data.toList=if (recF s.data.toList).2 then ⟨(recA s.data.toList).2,(recQ s.data.toList).2,true,0,⟨#[]⟩,⟨(recS s.data.toList).2.toArray⟩⟩ else ⟨(recA s.data.toList).2,(recQ s.data.toList).2,false,(recK s.data.toList).2,⟨(recD s.data.toList).2.toArray⟩,⟨#[]⟩⟩):=rfl
 have HTE:=hI (@rtC_e s.data.toList)
 have HTK:=hI (@rtC_chk s.data.toList)
 have hld:(recD s.data.toList).2.length≤5000:=qht s.data.toList 5000 (recK s.data.toList).1
 have pA:(recA s.data.toList).1.pos≤s.size:=by have:=qjo (s:=s.data.toList) (most:=1000000) (r:=⟨0,0⟩) (Nat.zero_le _);rw [hsl] at this;exact this
 have pQ:(recQ s.data.toList).1.pos≤s.size:=by have:=qjo (s:=s.data.toList) (most:=1000000) (r:=(recA s.data.toList).1) (by omega);rw [hsl] at this;exact this
 have pF:(recF s.data.toList).1.pos≤s.size:=by have:=flagR_pos (s:=s.data.toList) (r:=(recQ s.data.toList).1) (by omega);rw [hsl] at this;exact this
 have pK:(recK s.data.toList).1.pos≤s.size:=by have:=qjo (s:=s.data.toList) (most:=9) (r:=(recF s.data.toList).1) (by omega);rw [hsl] at this;exact this
 generalize recA s.data.toList=rA at HRA HRQ HRO pA
 generalize recQ s.data.toList=rQ at HRQ HRF HRO pQ
 generalize recF s.data.toList=rF at HRF HRS HRK HRR HRO pF
 generalize recS s.data.toList=rS at HRS HRR HRO
 generalize recK s.data.toList=rK at HRK HRD HRO pK
 generalize recD s.data.toList=rD at HRD HRR HRO hld
 obtain ⟨r1,n1⟩:=rA
 obtain ⟨r2,n2⟩:=rQ
 obtain ⟨r3,sn⟩:=rF
 obtain ⟨r4,t4⟩:=rS
 obtain ⟨r5,n5⟩:=rK
 obtain ⟨r6,t6⟩:=rD
 dsimp only at HRQ HRF HRS HRK HRD HRR HRO hld pA pQ pF pK
 clear hs hsl
 go_enter Tryz.func70,Tryz.ntmps70
 go_wp2_with fail
 refine (HN0.out r1 n1 _ HRA.out.symm).mono ?_
 rintro e w1 ⟨hb1,pc1,rfl⟩
 have J1:Hid (JS w w1.heap.size s r1 pc1 (w1.alloc (.cells #[.string s,.int .i64 (r1.pos:Int),.string pc1,.int .i64 (r1.e:Int)] 175))):=⟨(Below.heap_alloc _ _ _ (by have:=hb1.size;simp at this;omega)).trans (qbz hb1),qcp w1 _,qab (qad (bel1 w _) hb1) _,by have:=hb1.size;simp at this;omega⟩
 have hz1:w.heap.size < w1.heap.size:=qaa (qbz hb1)
 clear hb1
 go_wp2_with fail
 refine (HNM.out pc1 r1 r2 n2 _ pA HRQ.out.symm).mono ?_
 rintro e w2 ⟨hb2,pc2,rfl⟩
 have J2:=hI ((J1.out.below hb2).set r2 pc2)
 obtain ⟨d0,u0,d1,u1,d2,u2,d3,u3⟩:=qci (J1.out.below hb2).ri
 have hz2:w1.heap.size < w2.heap.size:=qaa (J1.out.below hb2).ri
 clear hb2 J1
 go_upto_region 3 with (fail)
 generalize ((((w2.setCell ⟨w1.heap.size,0,none⟩ (.string s)).setCell ⟨w1.heap.size,1,none⟩ (.int .i64 (r2.pos:Int))).setCell ⟨w1.heap.size,2,none⟩ (.string pc2)).setCell ⟨w1.heap.size,3,none⟩ (.int .i64 (r2.e:Int)))=w3 at J2 ⊢
 obtain ⟨e0,-,e1,-,e2,-,e3,-⟩:=qci J2.out.ri
 have hz3:w1.heap.size < w3.heap.size:=qaa J2.out.ri
 clear d0 u0 d1 u1 d2 u2 d3 u3 hz2
 go_wp2_with fail
 refine (HFL.out pc2 r2 r3 sn _ pQ HRF.out.symm).mono ?_
 rintro e w4 ⟨hb4,pc3,rfl⟩
 have J4:=hI ((J2.out.below hb4).set r3 pc3)
 obtain ⟨d0,u0,d1,u1,d2,u2,d3,u3⟩:=qci (J2.out.below hb4).ri
 have hz4:w1.heap.size < w4.heap.size:=qaa (J2.out.below hb4).ri
 clear hb4 J2 e0 e1 e2 e3 hz3
 go_upto_region 4 with (fail)
 generalize ((((w4.setCell ⟨w1.heap.size,0,none⟩ (.string s)).setCell ⟨w1.heap.size,1,none⟩ (.int .i64 (r3.pos:Int))).setCell ⟨w1.heap.size,2,none⟩ (.string pc3)).setCell ⟨w1.heap.size,3,none⟩ (.int .i64 (r3.e:Int)))=w5 at J4 ⊢
 have hz5:w1.heap.size < w5.heap.size:=qaa J4.out.ri
 clear d0 u0 d1 u1 d2 u2 d3 u3 hz4
 obtain ⟨e0,-,e1,-,e2,-,e3,-⟩:=qci J4.out.ri
 cases sn
 ·rw [if_neg (by simp)] at HRR HRO
  go_wp2_with fail
  refine (HNK.out pc3 r3 r5 n5 _ pF HRK.out.symm).mono ?_
  rintro e w6 ⟨hb6,pc6,rfl⟩
  have J6:=hI ((J4.out.below (bel1 w5 _)).below hb6)
  have M6:=hI (qbz hb6)
  have hz6:w5.heap.size < w6.heap.size:=qaa M6.out
  clear hb6 e0 e1 e2 e3
  go_wp2_with fail
  refine (HTD.out pc6 r5 r6 t6 _ pK HRD.out.symm).mono ?_
  rintro e w7 ⟨hb7,pc7,rfl⟩
  have J7:=hI (((J6.out.below (qad (bel1 w6 _) hb7)).below (bel1 w7 (.cells #[.string s,.int .i64 (r6.pos:Int),.string pc7,.int .i64 (r6.e:Int)] 175))))
  have M7:=hI (((hb7.block _ (by have:=qaa M6.out;simp;omega)).trans ((Below.heap_alloc _ _ _ (qaa M6.out)).trans M6.out)))
  have hz7:w5.heap.size < w7.heap.size:=qaa M7.out
  clear hb7 J6 M6
  go_upto_region 10 with (fail)
  have N8:=hI (qcp w7 (.cells #[.string s,.int .i64 (r6.pos:Int),.string pc7,.int .i64 (r6.e:Int)] 175))
  have M8:=hI ((Below.heap_alloc w7 (.cells #[.string s,.int .i64 (r6.pos:Int),.string pc7,.int .i64 (r6.e:Int)] 175) _ (qaa M7.out)).trans M7.out)
  have hzz:w7.heap.size < (w7.alloc (.cells #[.string s,.int .i64 (r6.pos:Int),.string pc7,.int .i64 (r6.e:Int)] 175)).heap.size:=by simp
  have hz8:w5.heap.size < (w7.alloc (.cells #[.string s,.int .i64 (r6.pos:Int),.string pc7,.int .i64 (r6.e:Int)] 175)).heap.size:=by simp;omega
  generalize w7.alloc (.cells #[.string s,.int .i64 (r6.pos:Int),.string pc7,.int .i64 (r6.e:Int)] 175)=w8 at J7 N8 M8 hzz hz8 ⊢
  have hz9:w1.heap.size < w8.heap.size:=qaa J7.out.ri
  obtain ⟨p0,-,p1,-,p2,-,p3,-⟩:=qci N8.out
  obtain ⟨d0,u0,d1,u1,d2,u2,d3,u3⟩:=qci J7.out.ri
  obtain ⟨⟨-,-,-,o3,o4,o5⟩,-,-,-,g3,g4,g5⟩:=qbg M8.out
  have J9:=hI (((J7.out.set r6 pc7).setO hz5 3 (.int .i64 (n5:Int))).setO hz5 4 (.string ⟨t6.toArray⟩))
  have M9:Hid (((((((w8.setCell ⟨w1.heap.size,0,none⟩ (.string s)).setCell ⟨w1.heap.size,1,none⟩ (.int .i64 (r6.pos:Int))).setCell ⟨w1.heap.size,2,none⟩ (.string pc7)).setCell ⟨w1.heap.size,3,none⟩ (.int .i64 (r6.e:Int))).setCell ⟨w5.heap.size,3,none⟩ (.int .i64 (n5:Int))).setCell ⟨w5.heap.size,4,none⟩ (.string ⟨t6.toArray⟩)).heap[w5.heap.size]?=some (.cells #[.int .i64 (n1:Int),.int .i64 (n2:Int),.bool false,.int .i64 (n5:Int),.string ⟨t6.toArray⟩,.string ⟨#[]⟩] 139 (0,0))):=by show _=_;rw [(qae (qae ((farI (by omega:w5.heap.size≠w1.heap.size) _ _ _ _).trans M8.out) 3 (.int .i64 (n5:Int))) 4 (.string ⟨t6.toArray⟩))];rfl
  clear J7 M8 N8
  go_upto_region 11 with (fail)
  generalize ((((((w8.setCell ⟨w1.heap.size,0,none⟩ (.string s)).setCell ⟨w1.heap.size,1,none⟩ (.int .i64 (r6.pos:Int))).setCell ⟨w1.heap.size,2,none⟩ (.string pc7)).setCell ⟨w1.heap.size,3,none⟩ (.int .i64 (r6.e:Int))).setCell ⟨w5.heap.size,3,none⟩ (.int .i64 (n5:Int))).setCell ⟨w5.heap.size,4,none⟩ (.string ⟨t6.toArray⟩))=w9 at J9 M9 ⊢
  clear p0 p1 p2 p3 d0 u0 d1 u1 d2 u2 d3 u3 o3 o4 o5 g3 g4 g5 hzz hz8 hz9
  have hdd0:(⟨t6.toArray⟩:ByteArray).size≤1000000:=by rw [qaz];omega
  obtain ⟨dd,hddE⟩:∃ x:ByteArray,x=⟨t6.toArray⟩:=⟨_,rfl⟩
  rw [←hddE] at M9 HRO
  have hdd:dd.size≤1000000:=by rw [hddE];exact hdd0
  obtain ⟨ss,hss⟩:∃ x:ByteArray,x=⟨#[]⟩:=⟨_,rfl⟩
  rw [←hss] at M9 HRO
  obtain ⟨kk,hkk⟩:∃ x:Int,x=(n5:Int):=⟨_,rfl⟩
  rw [←hkk] at M9 HRO
  obtain ⟨sn,hsn⟩:∃ x:Bool,x=false:=⟨_,rfl⟩
  rw [←hsn] at M9 HRO
  clear hddE hss hkk hsn hdd0
  obtain ⟨d0,u0,d1,u1,d2,u2,d3,u3⟩:=qci J9.out.ri
  have hz9:w1.heap.size < w9.heap.size:=qaa J9.out.ri
  go_wp2_with fail
  refine (HEN.out pc7 r6 (recR s.data.toList) _ HRR.out).mono ?_
  rintro e w10 ⟨hb10,pc10,rfl⟩
  have J10:=hI ((J9.out.below hb10).set (recR s.data.toList) pc10)
  have M10:=hI ((farI (by omega:w5.heap.size≠w1.heap.size) (.string s) (.int .i64 ((recR s.data.toList).pos:Int)) (.string pc10) (.int .i64 ((recR s.data.toList).e:Int))).trans ((hb10.block _ (qaa M9.out)).trans M9.out))
  clear d0 u0 d1 u1 d2 u2 d3 u3 hz9
  obtain ⟨d0,u0,d1,u1,d2,u2,d3,u3⟩:=qci (J9.out.below hb10).ri
  have hz10:w1.heap.size < w10.heap.size:=qaa (J9.out.below hb10).ri
  clear hb10 J9 M9
  go_upto_region 12 with (fail)
  generalize ((((w10.setCell ⟨w1.heap.size,0,none⟩ (.string s)).setCell ⟨w1.heap.size,1,none⟩ (.int .i64 ((recR s.data.toList).pos:Int))).setCell ⟨w1.heap.size,2,none⟩ (.string pc10)).setCell ⟨w1.heap.size,3,none⟩ (.int .i64 ((recR s.data.toList).e:Int)))=w11 at J10 M10 ⊢
  clear d0 u0 d1 u1 d2 u2 d3 u3 hz10
  obtain ⟨-,-,-,-,-,-,d3,-⟩:=qci J10.out.ri
  have hz11:w1.heap.size < w11.heap.size:=qaa J10.out.ri
  have hz12:w5.heap.size < w11.heap.size:=qaa M10.out
  by_cases he:(recR s.data.toList).e=0
  ·have HTV:=hI (HTK.out he)
   have he0:(((recR s.data.toList).e:Int) != 0)=false:=by simp [he]
   clear he
   obtain ⟨⟨o0,o1,o2,o3,o4,o5⟩,-⟩:=qbg M10.out
   go_wp2_with fail
   refine (HCK.out ⟨(n1:Int),(n2:Int),sn,kk,dd,ss⟩ w11 hdd).mono ?_
   rintro e w12 ⟨rfl,hb12⟩
   rw [←HRO.out]
   have J12:=hI (J10.out.below hb12)
   have M12:=hI ((hb12.block _ (qaa M10.out)).trans M10.out)
   clear hb12 d3 o0 o1 o2 o3 o4 o5 hz11 hz12 he0
   obtain ⟨⟨x0,x1,x2,x3,x4,x5⟩,u0,u1,u2,u3,u4,u5⟩:=qbg J12.out.rz
   have hzz:w.heap.size < w12.heap.size:=qaa J12.out.rz
   rcases qla (recO s.data.toList) with h0 | h0
   ·have HT0:Hid (rtC s.data.toList=0):=by show _=_;rw [HTV.out];exact h0
    rw [h0]
    clear h0
    obtain ⟨⟨o0,o1,o2,o3,o4,o5⟩,-⟩:=qbg M12.out
    have hz12:w5.heap.size < w12.heap.size:=qaa M12.out
    have HALL:=hI (And.intro (qjk J12.out.rz (.int .i64 (n1:Int)) (.int .i64 (n2:Int)) (.bool sn) (.int .i64 kk) (.string dd) (.string ss)) (bel6 J12.out.b (Nat.le_refl _) (.int .i64 (n1:Int)) (.int .i64 (n2:Int)) (.bool sn) (.int .i64 kk) (.string dd) (.string ss)))
    go_wp2
    generalize ((((((w12.setCell ⟨w.heap.size,0,none⟩ (.int .i64 (n1:Int))).setCell ⟨w.heap.size,1,none⟩ (.int .i64 (n2:Int))).setCell ⟨w.heap.size,2,none⟩ (.bool sn)).setCell ⟨w.heap.size,3,none⟩ (.int .i64 kk)).setCell ⟨w.heap.size,4,none⟩ (.string dd)).setCell ⟨w.heap.size,5,none⟩ (.string ss))=wf at HALL ⊢
    obtain ⟨hF,hFin⟩:=HALL.out
    obtain ⟨⟨y0,y1,y2,y3,y4,y5⟩,-⟩:=qbg hF
    refine bodyPost_ret (v:=.tuple #[.agg #[.int .i64 (n1:Int),.int .i64 (n2:Int),.bool sn,.int .i64 kk,.string dd,.string ss],.int .i64 0]) (by simp [results,Tryz.results70,go_sem,y0,y1,y2,y3,y4,y5]) rfl ?_
    exact ⟨⟨⟨(n1:Int),(n2:Int),sn,kk,dd,ss⟩,by rw [HT0.out];rfl,fun h=>absurd HT0.out h,fun _=>HRO.out.symm⟩,hFin⟩
   ·have HT0:Hid (rtC s.data.toList=2):=by show _=_;rw [HTV.out];exact h0
    rw [h0]
    clear h0
    have HALL:=hI (And.intro (qjk J12.out.rz (.int .i64 0) (.int .i64 0) (.bool false) (.int .i64 0) (.string ⟨#[]⟩) (.string ⟨#[]⟩)) (bel6 J12.out.b (Nat.le_refl _) (.int .i64 0) (.int .i64 0) (.bool false) (.int .i64 0) (.string ⟨#[]⟩) (.string ⟨#[]⟩)))
    go_wp2
    generalize ((((((w12.setCell ⟨w.heap.size,0,none⟩ (.int .i64 0)).setCell ⟨w.heap.size,1,none⟩ (.int .i64 0)).setCell ⟨w.heap.size,2,none⟩ (.bool false)).setCell ⟨w.heap.size,3,none⟩ (.int .i64 0)).setCell ⟨w.heap.size,4,none⟩ (.string ⟨#[]⟩)).setCell ⟨w.heap.size,5,none⟩ (.string ⟨#[]⟩))=wf at HALL ⊢
    obtain ⟨hF,hFin⟩:=HALL.out
    obtain ⟨⟨y0,y1,y2,y3,y4,y5⟩,-⟩:=qbg hF
    refine bodyPost_ret (v:=.tuple #[.agg #[.int .i64 0,.int .i64 0,.bool false,.int .i64 0,.string ⟨#[]⟩,.string ⟨#[]⟩],.int .i64 2]) (by simp [results,Tryz.results70,go_sem,y0,y1,y2,y3,y4,y5]) rfl ?_
    exact ⟨⟨zR,by rw [HT0.out];rfl,fun _=>rfl,fun h=>by rw [HT0.out] at h;cases h⟩,hFin⟩
  ·have HTV:=hI (HTE.out he)
   have HE:=hI he
   have he0:(((recR s.data.toList).e:Int) != 0)=true:=by simpa using he
   clear he
   obtain ⟨⟨x0,x1,x2,x3,x4,x5⟩,u0,u1,u2,u3,u4,u5⟩:=qbg J10.out.rz
   have hzz:w.heap.size < w11.heap.size:=qaa J10.out.rz
   have hne:w.heap.size≠w1.heap.size:=by omega
   have HALL:=hI (And.intro (qjk J10.out.rz (.int .i64 0) (.int .i64 0) (.bool false) (.int .i64 0) (.string ⟨#[]⟩) (.string ⟨#[]⟩)) (bel6 J10.out.b (Nat.le_refl _) (.int .i64 0) (.int .i64 0) (.bool false) (.int .i64 0) (.string ⟨#[]⟩) (.string ⟨#[]⟩)))
   go_wp2_with fail
   go_region
   all_goals go_wp2
   all_goals
    generalize ((((((w11.setCell ⟨w.heap.size,0,none⟩ (.int .i64 0)).setCell ⟨w.heap.size,1,none⟩ (.int .i64 0)).setCell ⟨w.heap.size,2,none⟩ (.bool false)).setCell ⟨w.heap.size,3,none⟩ (.int .i64 0)).setCell ⟨w.heap.size,4,none⟩ (.string ⟨#[]⟩)).setCell ⟨w.heap.size,5,none⟩ (.string ⟨#[]⟩))=wf at HALL ⊢
    obtain ⟨hF,hFin⟩:=HALL.out
    obtain ⟨⟨y0,y1,y2,y3,y4,y5⟩,-⟩:=qbg hF
    refine bodyPost_ret (v:=.tuple #[.agg #[.int .i64 0,.int .i64 0,.bool false,.int .i64 0,.string ⟨#[]⟩,.string ⟨#[]⟩],.int .i64 ((recR s.data.toList).e:Int)]) (by simp [results,Tryz.results70,go_sem,y0,y1,y2,y3,y4,y5]) rfl ?_
    exact ⟨⟨zR,by rw [HTV.out];rfl,fun _=>rfl,fun h=>absurd (HTV.out.symm.trans h) HE.out⟩,hFin.drew⟩
 ·rw [if_pos rfl] at HRR HRO
  go_wp2_with fail
  refine (HTS.out pc3 r3 r4 t4 _ pF HRS.out.symm).mono ?_
  rintro e w7 ⟨hb7,pc7,rfl⟩
  have J7:=hI (((J4.out.below (bel1 w5 _)).below hb7).below (bel1 w7 (.cells #[.string s,.int .i64 (r4.pos:Int),.string pc7,.int .i64 (r4.e:Int)] 175)))
  have M7:=hI (qbz hb7)
  have hz7:w5.heap.size < w7.heap.size:=qaa M7.out
  clear hb7 e0 e1 e2 e3
  go_upto_region 7 with (fail)
  have N8:=hI (qcp w7 (.cells #[.string s,.int .i64 (r4.pos:Int),.string pc7,.int .i64 (r4.e:Int)] 175))
  have M8:=hI ((Below.heap_alloc w7 (.cells #[.string s,.int .i64 (r4.pos:Int),.string pc7,.int .i64 (r4.e:Int)] 175) _ (qaa M7.out)).trans M7.out)
  have hzz:w7.heap.size < (w7.alloc (.cells #[.string s,.int .i64 (r4.pos:Int),.string pc7,.int .i64 (r4.e:Int)] 175)).heap.size:=by simp
  have hz8:w5.heap.size < (w7.alloc (.cells #[.string s,.int .i64 (r4.pos:Int),.string pc7,.int .i64 (r4.e:Int)] 175)).heap.size:=by simp;omega
  generalize w7.alloc (.cells #[.string s,.int .i64 (r4.pos:Int),.string pc7,.int .i64 (r4.e:Int)] 175)=w8 at J7 N8 M8 hzz hz8 ⊢
  have hz9:w1.heap.size < w8.heap.size:=qaa J7.out.ri
  obtain ⟨p0,-,p1,-,p2,-,p3,-⟩:=qci N8.out
  obtain ⟨d0,u0,d1,u1,d2,u2,d3,u3⟩:=qci J7.out.ri
  obtain ⟨⟨-,-,-,o3,o4,o5⟩,-,-,-,g3,g4,g5⟩:=qbg M8.out
  have J9:=hI ((J7.out.set r4 pc7).setO hz5 5 (.string ⟨t4.toArray⟩))
  have M9:Hid ((((((w8.setCell ⟨w1.heap.size,0,none⟩ (.string s)).setCell ⟨w1.heap.size,1,none⟩ (.int .i64 (r4.pos:Int))).setCell ⟨w1.heap.size,2,none⟩ (.string pc7)).setCell ⟨w1.heap.size,3,none⟩ (.int .i64 (r4.e:Int))).setCell ⟨w5.heap.size,5,none⟩ (.string ⟨t4.toArray⟩)).heap[w5.heap.size]?=some (.cells #[.int .i64 (n1:Int),.int .i64 (n2:Int),.bool true,.int .i64 0,.string ⟨#[]⟩,.string ⟨t4.toArray⟩] 139 (0,0))):=by show _=_;rw [(qae ((farI (by omega:w5.heap.size≠w1.heap.size) _ _ _ _).trans M8.out) 5 (.string ⟨t4.toArray⟩))];rfl
  clear J7 M8 N8
  go_upto_region 11 with (fail)
  generalize (((((w8.setCell ⟨w1.heap.size,0,none⟩ (.string s)).setCell ⟨w1.heap.size,1,none⟩ (.int .i64 (r4.pos:Int))).setCell ⟨w1.heap.size,2,none⟩ (.string pc7)).setCell ⟨w1.heap.size,3,none⟩ (.int .i64 (r4.e:Int))).setCell ⟨w5.heap.size,5,none⟩ (.string ⟨t4.toArray⟩))=w9 at J9 M9 ⊢
  clear p0 p1 p2 p3 d0 u0 d1 u1 d2 u2 d3 u3 o3 o4 o5 g3 g4 g5 hzz hz8 hz9
  obtain ⟨ss,hss⟩:∃ x:ByteArray,x=⟨t4.toArray⟩:=⟨_,rfl⟩
  rw [←hss] at M9 HRO
  obtain ⟨dd,hddE⟩:∃ x:ByteArray,x=⟨#[]⟩:=⟨_,rfl⟩
  rw [←hddE] at M9 HRO
  have hdd:dd.size≤1000000:=by rw [hddE];decide
  obtain ⟨kk,hkk⟩:∃ x:Int,x=0:=⟨_,rfl⟩
  rw [←hkk] at M9 HRO
  obtain ⟨sn,hsn⟩:∃ x:Bool,x=true:=⟨_,rfl⟩
  rw [←hsn] at M9 HRO
  clear hddE hss hkk hsn
  obtain ⟨d0,u0,d1,u1,d2,u2,d3,u3⟩:=qci J9.out.ri
  have hz9:w1.heap.size < w9.heap.size:=qaa J9.out.ri
  go_wp2_with fail
  refine (HEN.out pc7 r4 (recR s.data.toList) _ HRR.out).mono ?_
  rintro e w10 ⟨hb10,pc10,rfl⟩
  have J10:=hI ((J9.out.below hb10).set (recR s.data.toList) pc10)
  have M10:=hI ((farI (by omega:w5.heap.size≠w1.heap.size) (.string s) (.int .i64 ((recR s.data.toList).pos:Int)) (.string pc10) (.int .i64 ((recR s.data.toList).e:Int))).trans ((hb10.block _ (qaa M9.out)).trans M9.out))
  clear d0 u0 d1 u1 d2 u2 d3 u3 hz9
  obtain ⟨d0,u0,d1,u1,d2,u2,d3,u3⟩:=qci (J9.out.below hb10).ri
  have hz10:w1.heap.size < w10.heap.size:=qaa (J9.out.below hb10).ri
  clear hb10 J9 M9
  go_upto_region 12 with (fail)
  generalize ((((w10.setCell ⟨w1.heap.size,0,none⟩ (.string s)).setCell ⟨w1.heap.size,1,none⟩ (.int .i64 ((recR s.data.toList).pos:Int))).setCell ⟨w1.heap.size,2,none⟩ (.string pc10)).setCell ⟨w1.heap.size,3,none⟩ (.int .i64 ((recR s.data.toList).e:Int)))=w11 at J10 M10 ⊢
  clear d0 u0 d1 u1 d2 u2 d3 u3 hz10
  obtain ⟨-,-,-,-,-,-,d3,-⟩:=qci J10.out.ri
  have hz11:w1.heap.size < w11.heap.size:=qaa J10.out.ri
  have hz12:w5.heap.size < w11.heap.size:=qaa M10.out
  by_cases he:(recR s.data.toList).e=0
  ·have HTV:=hI (HTK.out he)
   have he0:(((recR s.data.toList).e:Int) != 0)=false:=by simp [he]
   clear he
   obtain ⟨⟨o0,o1,o2,o3,o4,o5⟩,-⟩:=qbg M10.out
   go_wp2_with fail
   refine (HCK.out ⟨(n1:Int),(n2:Int),sn,kk,dd,ss⟩ w11 hdd).mono ?_
   rintro e w12 ⟨rfl,hb12⟩
   rw [←HRO.out]
   have J12:=hI (J10.out.below hb12)
   have M12:=hI ((hb12.block _ (qaa M10.out)).trans M10.out)
   clear hb12 d3 o0 o1 o2 o3 o4 o5 hz11 hz12 he0
   obtain ⟨⟨x0,x1,x2,x3,x4,x5⟩,u0,u1,u2,u3,u4,u5⟩:=qbg J12.out.rz
   have hzz:w.heap.size < w12.heap.size:=qaa J12.out.rz
   rcases qla (recO s.data.toList) with h0 | h0
   ·have HT0:Hid (rtC s.data.toList=0):=by show _=_;rw [HTV.out];exact h0
    rw [h0]
    clear h0
    obtain ⟨⟨o0,o1,o2,o3,o4,o5⟩,-⟩:=qbg M12.out
    have hz12:w5.heap.size < w12.heap.size:=qaa M12.out
    have HALL:=hI (And.intro (qjk J12.out.rz (.int .i64 (n1:Int)) (.int .i64 (n2:Int)) (.bool sn) (.int .i64 kk) (.string dd) (.string ss)) (bel6 J12.out.b (Nat.le_refl _) (.int .i64 (n1:Int)) (.int .i64 (n2:Int)) (.bool sn) (.int .i64 kk) (.string dd) (.string ss)))
    go_wp2
    generalize ((((((w12.setCell ⟨w.heap.size,0,none⟩ (.int .i64 (n1:Int))).setCell ⟨w.heap.size,1,none⟩ (.int .i64 (n2:Int))).setCell ⟨w.heap.size,2,none⟩ (.bool sn)).setCell ⟨w.heap.size,3,none⟩ (.int .i64 kk)).setCell ⟨w.heap.size,4,none⟩ (.string dd)).setCell ⟨w.heap.size,5,none⟩ (.string ss))=wf at HALL ⊢
    obtain ⟨hF,hFin⟩:=HALL.out
    obtain ⟨⟨y0,y1,y2,y3,y4,y5⟩,-⟩:=qbg hF
    refine bodyPost_ret (v:=.tuple #[.agg #[.int .i64 (n1:Int),.int .i64 (n2:Int),.bool sn,.int .i64 kk,.string dd,.string ss],.int .i64 0]) (by simp [results,Tryz.results70,go_sem,y0,y1,y2,y3,y4,y5]) rfl ?_
    exact ⟨⟨⟨(n1:Int),(n2:Int),sn,kk,dd,ss⟩,by rw [HT0.out];rfl,fun h=>absurd HT0.out h,fun _=>HRO.out.symm⟩,hFin⟩
   ·have HT0:Hid (rtC s.data.toList=2):=by show _=_;rw [HTV.out];exact h0
    rw [h0]
    clear h0
    have HALL:=hI (And.intro (qjk J12.out.rz (.int .i64 0) (.int .i64 0) (.bool false) (.int .i64 0) (.string ⟨#[]⟩) (.string ⟨#[]⟩)) (bel6 J12.out.b (Nat.le_refl _) (.int .i64 0) (.int .i64 0) (.bool false) (.int .i64 0) (.string ⟨#[]⟩) (.string ⟨#[]⟩)))
    go_wp2
    generalize ((((((w12.setCell ⟨w.heap.size,0,none⟩ (.int .i64 0)).setCell ⟨w.heap.size,1,none⟩ (.int .i64 0)).setCell ⟨w.heap.size,2,none⟩ (.bool false)).setCell ⟨w.heap.size,3,none⟩ (.int .i64 0)).setCell ⟨w.heap.size,4,none⟩ (.string ⟨#[]⟩)).setCell ⟨w.heap.size,5,none⟩ (.string ⟨#[]⟩))=wf at HALL ⊢
    obtain ⟨hF,hFin⟩:=HALL.out
    obtain ⟨⟨y0,y1,y2,y3,y4,y5⟩,-⟩:=qbg hF
    refine bodyPost_ret (v:=.tuple #[.agg #[.int .i64 0,.int .i64 0,.bool false,.int .i64 0,.string ⟨#[]⟩,.string ⟨#[]⟩],.int .i64 2]) (by simp [results,Tryz.results70,go_sem,y0,y1,y2,y3,y4,y5]) rfl ?_
    exact ⟨⟨zR,by rw [HT0.out];rfl,fun _=>rfl,fun h=>by rw [HT0.out] at h;cases h⟩,hFin⟩
  ·have HTV:=hI (HTE.out he)
   have HE:=hI he
   have he0:(((recR s.data.toList).e:Int) != 0)=true:=by simpa using he
   clear he
   obtain ⟨⟨x0,x1,x2,x3,x4,x5⟩,u0,u1,u2,u3,u4,u5⟩:=qbg J10.out.rz
   have hzz:w.heap.size < w11.heap.size:=qaa J10.out.rz
   have hne:w.heap.size≠w1.heap.size:=by omega
   have HALL:=hI (And.intro (qjk J10.out.rz (.int .i64 0) (.int .i64 0) (.bool false) (.int .i64 0) (.string ⟨#[]⟩) (.string ⟨#[]⟩)) (bel6 J10.out.b (Nat.le_refl _) (.int .i64 0) (.int .i64 0) (.bool false) (.int .i64 0) (.string ⟨#[]⟩) (.string ⟨#[]⟩)))
   go_wp2_with fail
   go_region
   all_goals go_wp2
   all_goals
    generalize ((((((w11.setCell ⟨w.heap.size,0,none⟩ (.int .i64 0)).setCell ⟨w.heap.size,1,none⟩ (.int .i64 0)).setCell ⟨w.heap.size,2,none⟩ (.bool false)).setCell ⟨w.heap.size,3,none⟩ (.int .i64 0)).setCell ⟨w.heap.size,4,none⟩ (.string ⟨#[]⟩)).setCell ⟨w.heap.size,5,none⟩ (.string ⟨#[]⟩))=wf at HALL ⊢
    obtain ⟨hF,hFin⟩:=HALL.out
    obtain ⟨⟨y0,y1,y2,y3,y4,y5⟩,-⟩:=qbg hF
    refine bodyPost_ret (v:=.tuple #[.agg #[.int .i64 0,.int .i64 0,.bool false,.int .i64 0,.string ⟨#[]⟩,.string ⟨#[]⟩],.int .i64 ((recR s.data.toList).e:Int)]) (by simp [results,Tryz.results70,go_sem,y0,y1,y2,y3,y4,y5]) rfl ?_
    exact ⟨⟨zR,by rw [HTV.out];rfl,fun _=>rfl,fun h=>absurd (HTV.out.symm.trans h) HE.out⟩,hFin.drew⟩
end Go.Proofs.YtjkecckndfcbjaaGreatDoor
