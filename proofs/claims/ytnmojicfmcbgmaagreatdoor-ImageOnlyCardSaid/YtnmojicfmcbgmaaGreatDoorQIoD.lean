/- The image's reader: commands and a store are read. -/
import Derived.Test.YtnmojicfmcbgmaaGreatDoorQIoC
namespace Go.Proofs.YtnmojicfmcbgmaaGreatDoor
open Go.RowKit Go.Sort Go.Lib Nb
set_option maxRecDepth 100000
/-- What lay in blocks from m on is as it was. -/
structure KF (m : Nat) (W W' : World) : Prop where
  size : W.heap.size ≤ W'.heap.size
  block : ∀ i, m ≤ i → i < W.heap.size → W'.heap[i]? = W.heap[i]?
theorem KF.refl (m : Nat) (W : World) : KF m W W := ⟨Nat.le_refl _, fun _ _ _ => rfl⟩
theorem KF.trans {m : Nat} {a b c : World} (h : KF m a b) (k : KF m b c) : KF m a c := ⟨Nat.le_trans h.size k.size, fun i h1 h2 => (k.block i h1 (Nat.lt_of_lt_of_le h2 h.size)).trans (h.block i h1 h2)⟩
theorem KF.mono {m m' : Nat} {a b : World} (h : KF m a b) (hm : m ≤ m') : KF m' a b := ⟨h.size, fun i h1 h2 => h.block i (by omega) h2⟩
theorem KF.of_post {m n b B : Nat} {s : ByteArray} {st : IS} {W W' : World} (h : IPost n b B s st W W') (hm : n ≤ m) : KF m W W' := ⟨h.2.size, fun i h1 h2 => h.2.block i h2 (by have := h.1.hb; omega) (by have := h.1.hB; omega)⟩
theorem KF.of_grown {m g : Nat} {W W' : World} (h : W.grownBy W' (some g)) (hm : g < m) : KF m W W' := ⟨h.size, fun i h1 h2 => h.block i h2 (by intro e; injection e with e; omega)⟩
theorem KF.of_below {m : Nat} {W W' : World} (h : Below W.heap.size W W') : KF m W W' := ⟨h.size, fun i _ h2 => h.block i h2⟩
/-- A row of elements, with what they hold, in blocks from m on. -/
structure RdX {α : Type} [Inhabited α] (kd : KD α) (m : Nat) (x : RW α) (W : World) : Prop where
  rd : RdK kd.en kd.k W.heap.size W x.A x.z
  cz : x.z.size ≤ x.c
  no : x.A = none → x.c = 0
  fr : Fr m x.A
  el : ∀ i, i < x.z.size → kd.rd W x.z[i]! ∧ ∀ blk, kd.rw x.z[i]! blk → m ≤ blk
theorem RdK.kf {α : Type} [Inhabited α] {en : α → List Value} {k m : Nat} {W W' : World} {A : Option Addr} {d : Array α} (h : RdK en k W.heap.size W A d) (hA : Fr m A) (hk : KF m W W') : RdK en k W'.heap.size W' A d := h.keepB hk.size (fun blk hb => hk.block blk (hb.fr hA) (h.ltB hb))
theorem RdI_R.kf {m : Nat} {W W' : World} {A : Option Addr} {d : Array Int} (h : RdI_R W.heap.size W A d) (hA : Fr m A) (hk : KF m W W') : RdI_R W'.heap.size W' A d := h.keepB hk.size (fun blk hb => hk.block blk (hb.fr hA) (h.ltB hb))
theorem RdX.kf {α : Type} [Inhabited α] {kd : KD α} {m : Nat} {x : RW α} {W W' : World} (h : RdX kd m x W) (hk : KF m W W') : RdX kd m x W' :=
  ⟨h.rd.kf h.fr hk, h.cz, h.no, h.fr, fun i hi => ⟨kd.keep (h.el i hi).1 hk.size (fun blk hb => hk.block blk ((h.el i hi).2 blk hb) (kd.lt (h.el i hi).1 hb)), (h.el i hi).2⟩⟩
theorem RdX.mono {α : Type} [Inhabited α] {kd : KD α} {m m' : Nat} {x : RW α} {W : World} (h : RdX kd m x W) (hm : m' ≤ m) : RdX kd m' x W := ⟨h.rd, h.cz, h.no, h.fr.mono hm, fun i hi => ⟨(h.el i hi).1, fun blk hb => Nat.le_trans hm ((h.el i hi).2 blk hb)⟩⟩
/-- What reading many elements leaves. -/
def LsP {α β : Type} [Inhabited α] (kd : KD α) (pc : α → β) (nn : α → Prop) (n b B : Nat) (s : ByteArray) (r : IS × List β) (w : World) (e : Ending) (w' : World) : Prop :=
  ∃ x : RW α, e = .returned (.slice x.A x.z.size x.c) ∧ RdX kd w.heap.size x w' ∧ (r.1.r.e = 0 → x.z.toList.map pc = r.2 ∧ ∀ y ∈ x.z.toList, nn y) ∧ IPost n b B s r.1 w w'
theorem TmP.ls {α β : Type} [Inhabited α] {kd : KD α} {C : Cod β} {pc : α → β} {nn : α → Prop} {n b B : Nat} {s : ByteArray} {m : Nat} {st : IS} {w w' : World} {e : Ending} (h : TmP kd C pc nn n b B s m st w e w') : LsP kd pc nn n b B s (manyR (C.rd s.data.toList) m st) w e w' := by
  obtain ⟨x, h1, h2, h3, h4, h5, h6, h7, h8⟩ := h
  exact ⟨x, h1, ⟨h2, h3, h4, h5, h6⟩, h7, h8⟩
theorem list_rd {α : Type} {c : Cod α} {most : Nat} {hm : most ≤ 9223372036854775807} {s : List UInt8} {st st1 : IS} {m : Nat} (e0 : (numC most hm).rd s st = (st1, m)) : (c.list most hm).rd s st = manyR (c.rd s) m st1 := by
  show ((((c.vec ((numC most hm).rd s st).2).rd s ((numC most hm).rd s st).1).1, ((c.vec ((numC most hm).rd s st).2).rd s ((numC most hm).rd s st).1).2)) = _
  rw [e0]
  rfl
theorem numC_le {most : Nat} {hm : most ≤ 9223372036854775807} {s : List UInt8} {st st1 : IS} {m : Nat} (e0 : (numC most hm).rd s st = (st1, m)) : m ≤ most := by
  have h1 : (numR s most st.r).2 = m := congrArg (fun q => q.2) e0
  rw [← h1]
  unfold numR
  split
  · exact Nat.zero_le _
  · split
    · exact Nat.zero_le _
    · split
      · exact Nat.zero_le _
      · simp only; omega
/-- A number of the reader, of any size. -/
theorem vnumM_any {n b B p1 p3 : Nat} {s : ByteArray} {st : IS} {w : World} (most : Nat) (hm : most ≤ 9223372036854775807) (h : VRd n b B s p1 p3 st w) (hs : s.size ≤ 1000000) {st' : IS} {x : Nat} (hx : (numC most hm).rd s.data.toList st = (st', x)) :
    Calls Tryz.prog 77 #[.pointer (some ⟨b, 0, none⟩), .int .i64 most] w fun e w' => e = .returned (.int .i64 (x : Int)) ∧ IPost n b B s st' w w' := by
  have := RNum_any b s st.r most w h.i.rd h.i.gl hs
  have e1 : (numR s.data.toList most st.r).1 = st'.r := by have := congrArg (fun q => q.1.r) hx; exact this
  have e2 : (numR s.data.toList most st.r).2 = x := congrArg (fun q => q.2) hx
  have e3 : st.odd = st'.odd := by have := congrArg (fun q => q.1.odd) hx; exact this
  rw [e2, e1] at this
  refine this.mono ?_
  rintro e w' ⟨h1, h2⟩
  have h3 := h.i.rpost h2
  rw [e3] at h3
  exact ⟨h1, h3, h2.gr2⟩
theorem heap_new3_X (w : World) (a b o : Obj) : (((w.alloc a).alloc b).alloc o).heap[w.heap.size + 1 + 1]? = some o := by
  have := heap_new_D ((w.alloc a).alloc b) o
  simpa using this
theorem heap_new4_X (w : World) (a b c o : Obj) : ((((w.alloc a).alloc b).alloc c).alloc o).heap[w.heap.size + 1 + 1 + 1]? = some o := by
  have := heap_new_D (((w.alloc a).alloc b).alloc c) o
  simpa using this
theorem VRd.box {n b B p1 p3 g : Nat} {s : ByteArray} {st : IS} {w w' : World} (h : VRd n b B s p1 p3 st w) (hi : IRd n b B s st w') (hg : w.grownBy w' (some g)) (h1 : p1 ≠ g) (h3 : p3 ≠ g) : VRd n b B s p1 p3 st w' :=
  ⟨hi, hg.cell h.v1 (by intro e; injection e with e; exact h1 e), hg.cell h.v3 (by intro e; injection e with e; exact h3 e), h.h1, h.h3, h.ge⟩
theorem hmf_X : ∀ (fn : Fn) (first cap : Array Value) (w : World), (Instr.makeFunc fn first cap).run Tryz.prog w = .ok (.func fn first cap) w := fun _ _ _ _ => rfl
set_option maxHeartbeats 4000000 in
theorem icommands_any (n b B : Nat) (s : ByteArray) (st : IS) (w : World) (h : IRd n b B s st w) (hge : 0 < n) (hs : s.size ≤ 1000000) :
    Calls Tryz.prog 78 #[.pointer (some ⟨B, 0, none⟩)] w fun e w' => LsP kdE entM nnE n b B s ((enC.list 1000 (by decide)).rd s.data.toList st) w e w' := by
  rcases e0 : (numC 1000 (by decide)).rd s.data.toList st with ⟨st1, m⟩
  have EE : Hid ((enC.list 1000 (by decide)).rd s.data.toList st = manyR (enC.rd s.data.toList) m st1) := list_rd e0
  have HM := Lib.hid (numC_le e0)
  have E0 := Lib.hid e0
  rw [EE.out]
  have H := Lib.hid h
  have HS := Lib.hid hs
  have HGE := Lib.hid hge
  have HQN := Lib.hid h.hn
  have hmf := hmf_X
  clear h hs hge e0
  go_enter Tryz.func78, Tryz.ntmps78
  go_upto_region 2 with (fail)
  obtain ⟨w0, hw0⟩ : ∃ W, W = ((w.alloc (.cells #[.pointer (some ⟨B, 0, none⟩)] 88)).alloc (.cells #[.func (.func 76) #[.pointer (some ⟨B, 0, none⟩)] #[]] 150)) := ⟨_, rfl⟩
  rw [← hw0]
  have B00 : Hid (Below w.heap.size w w0) := by show Below _ _ _; rw [hw0]; exact belAlloc (bel1 w _) _
  have Q1 : Hid (w0.heap[w.heap.size]? = some (.cells #[.pointer (some ⟨B, 0, none⟩)] 88 (0, 0))) := by show _ = _; rw [hw0]; exact heap_al (heap_new_D w _) _
  have Q3 : Hid (w0.heap[w.heap.size + 1]? = some (.cells #[.func (.func 76) #[.pointer (some ⟨B, 0, none⟩)] #[]] 150 (0, 0))) := by show _ = _; rw [hw0]; exact heap_new2_D w _ _
  have V00 : Hid (VRd n b B s w.heap.size (w.heap.size + 1) st w0) := ⟨H.out.below B00.out, (heap_cell Q1.out 0).trans rfl, (heap_cell Q3.out 0).trans rfl, HQN.out, by have := HQN.out; omega, HGE.out⟩
  clear hw0
  obtain ⟨p3, hp3⟩ : ∃ p, p = w.heap.size + 1 := ⟨_, rfl⟩
  rw [← hp3] at V00 ⊢
  obtain ⟨p1, hp1⟩ : ∃ p, p = w.heap.size := ⟨_, rfl⟩
  rw [← hp1] at V00 ⊢
  clear hp1 hp3 Q1 Q3
  go_wp2_with fail
  refine wp_region_E (S := fun W => W.cell? ⟨p1, 0, none⟩ = some (.pointer (some ⟨B, 0, none⟩)) ∧ W.cell? ⟨p3, 0, none⟩ = some (.func (.func 76) #[.pointer (some ⟨B, 0, none⟩)] #[]) ∧ W.cell? ⟨B, 0, none⟩ = some (.pointer (some ⟨b, 0, none⟩))) (by kernel_rfl) ?_
  have V0 := Lib.hid (V00.out.below (Below.refl w0.heap.size w0).drew)
  have P0 := Lib.hid ((IPost.of_below H.out B00.out).below (Below.refl w0.heap.size w0).drew)
  clear V00
  have hS := V0.out.sw
  unfold SW at hS
  refine takeD (some 6) (i := 0) (v := ?_) rfl rfl (by kernel_rfl) (by kernel_rfl) (by kernel_rfl) (fun _ _ _ h => h) (Or.inl ⟨by rfl, ?_⟩) hS ?_
  rotate_left
  · (intro W hW; (try dsimp only at hW); go_simp; with_reducible rfl)
  simp only [Act.put, List.setIfInBounds_toArray, List.set_cons_zero, List.set_cons_succ]
  refine takeD (some 7) (i := 1) (v := ?_) rfl rfl (by kernel_rfl) (by kernel_rfl) (by kernel_rfl) (fun _ _ _ h => h) (Or.inl ⟨by rfl, ?_⟩) hS ?_
  rotate_left
  · (intro W hW; (try dsimp only at hW); go_simp; with_reducible rfl)
  simp only [Act.put, List.setIfInBounds_toArray, List.set_cons_zero, List.set_cons_succ]
  refine takeD (some 8) (i := 2) (v := ?_) rfl rfl (by kernel_rfl) (by kernel_rfl) (by kernel_rfl) (fun _ _ _ h => h) (Or.inl ⟨by rfl, ?_⟩) hS ?_
  rotate_left
  · (intro W hW; (try dsimp only at hW); go_simp; with_reducible rfl)
  simp only [Act.put, List.setIfInBounds_toArray, List.set_cons_zero, List.set_cons_succ]
  refine takeD (some 9) (i := 3) (v := ?_) rfl rfl (by kernel_rfl) (by kernel_rfl) (by kernel_rfl) (fun _ _ _ h => h) (Or.inl ⟨by rfl, ?_⟩) hS ?_
  rotate_left
  · (intro W hW; (try dsimp only at hW); go_simp; with_reducible rfl)
  simp only [Act.put, List.setIfInBounds_toArray, List.set_cons_zero, List.set_cons_succ]
  refine takeD (some 10) (i := 4) (v := ?_) rfl rfl (by kernel_rfl) (by kernel_rfl) (by kernel_rfl) (fun _ _ _ h => h) (Or.inl ⟨by rfl, ?_⟩) hS ?_
  rotate_left
  · (intro W hW; (try dsimp only at hW); go_simp; with_reducible rfl)
  simp only [Act.put, List.setIfInBounds_toArray, List.set_cons_zero, List.set_cons_succ]
  refine takeD (some 12) (i := 6) (v := ?_) rfl rfl (by kernel_rfl) (by kernel_rfl) (by kernel_rfl) (fun _ _ _ h => h) (Or.inl ⟨by rfl, ?_⟩) hS ?_
  rotate_left
  · (intro W hW; (try dsimp only at hW); go_simp; with_reducible rfl)
  simp only [Act.put, List.setIfInBounds_toArray, List.set_cons_zero, List.set_cons_succ]
  refine wpAnyE_ready (rs := [5]) (by kernel_rfl) (by simp) (AllReadyE.cons rfl (fun K hK => ?_) AllReadyE.nil)
  go_simp
  refine (vnumM_any 1000 _ V0.out HS.out E0.out).mono ?_
  rintro _ w1 ⟨rfl, hp⟩
  have V1 := Lib.hid (V0.out.post hp)
  have P1 := Lib.hid (P0.out.trans hp)
  clear hp
  refine hK.out _ _ V1.out.sw (fun _ => ?_)
  clear hK K
  refine wpAnyE_ready (rs := [7]) (by kernel_rfl) (by simp) (AllReadyE.cons rfl (fun K hK => ?_) AllReadyE.nil)
  go_simp
  refine (timesE_any n b B s p1 p3 st1 m w1 V1.out HS.out HM.out).mono ?_
  rintro _ w2 hT
  obtain ⟨x, rfl, hx, hms, hp⟩ := hT.ls
  have HX := Lib.hid (hx.mono P1.out.2.size)
  have HMS := Lib.hid hms
  have P2 := Lib.hid (P1.out.trans hp)
  have V2 := Lib.hid (V1.out.post hp)
  clear hp hx hms hT
  refine hK.out _ _ V2.out.sw (fun _ => ?_)
  clear hK K
  have hS := V2.out.sw
  unfold SW at hS
  refine takeD (some 2) (i := 8) (v := ?_) rfl rfl (by kernel_rfl) (by kernel_rfl) (by kernel_rfl) (fun _ _ _ h => h) (Or.inl ⟨by rfl, ?_⟩) hS ?_
  rotate_left
  · (intro W hW; (try dsimp only at hW); go_simp; with_reducible rfl)
  simp only [Act.put, List.setIfInBounds_toArray]
  refine wpAnyE_done (by kernel_rfl) ?_ _
  go_wp2
  go_ret
  exact ⟨x, rfl, HX.out, HMS.out, P2.out⟩
theorem stuck_back {α : Type} {c : Cod α} {s : List UInt8} {st st' : IS} {x : α} (h : c.rd s st = (st', x)) (he : st'.r.e = 0) : st.r.e = 0 := by
  by_cases h0 : st.r.e = 0
  · exact h0
  · have := c.stuck s st h0
    rw [h] at this
    simp only at this
    rw [this] at he
    exact he
/-- What reading a store leaves. -/
def StoP (n b B : Nat) (s : ByteArray) (r : IS × (List (List Nat) × List SeT)) (w : World) (e : Ending) (w' : World) : Prop :=
  ∃ (x : RW IT) (y : RW SS), e = .returned (.agg #[.slice x.A x.z.size x.c, .slice y.A y.z.size y.c]) ∧ RdX kdT w.heap.size x w' ∧ RdX kdS w.heap.size y w' ∧
    (r.1.r.e = 0 → (x.z.toList.map itM = r.2.1 ∧ ∀ z ∈ x.z.toList, nnT z) ∧ (y.z.toList.map seM = r.2.2 ∧ ∀ z ∈ y.z.toList, nnS z)) ∧ IPost n b B s r.1 w w'
set_option maxHeartbeats 8000000 in
theorem istore_any (n b B : Nat) (s : ByteArray) (st : IS) (w : World) (h : IRd n b B s st w) (hge : 0 < n) (hs : s.size ≤ 1000000) :
    Calls Tryz.prog 90 #[.pointer (some ⟨B, 0, none⟩)] w fun e w' => StoP n b B s ((((nC.vec 4).list 1000 (by decide)).pair (seC.list 1000 (by decide))).rd s.data.toList st) w e w' := by
  rcases e0 : (numC 1000 (by decide)).rd s.data.toList st with ⟨st1, m1⟩
  rcases e1 : manyR ((nC.vec 4).rd s.data.toList) m1 st1 with ⟨st2, g1⟩
  rcases e2 : (numC 1000 (by decide)).rd s.data.toList st2 with ⟨st3, m2⟩
  rcases e3 : manyR (seC.rd s.data.toList) m2 st3 with ⟨st4, g2⟩
  have l1 : ((nC.vec 4).list 1000 (by decide)).rd s.data.toList st = (st2, g1) := (list_rd e0).trans e1
  have l2 : (seC.list 1000 (by decide)).rd s.data.toList st2 = (st4, g2) := (list_rd e2).trans e3
  have EE : Hid ((((nC.vec 4).list 1000 (by decide)).pair (seC.list 1000 (by decide))).rd s.data.toList st = (st4, (g1, g2))) := pair_rd l1 l2
  have HBK : Hid (st4.r.e = 0 → st2.r.e = 0) := fun h0 => stuck_back l2 h0
  have HM1 := Lib.hid (numC_le e0)
  have HM2 := Lib.hid (numC_le e2)
  have E0 := Lib.hid e0
  have E1 := Lib.hid e1
  have E2 := Lib.hid e2
  have E3 := Lib.hid e3
  rw [EE.out]
  have H := Lib.hid h
  have HS := Lib.hid hs
  have HGE := Lib.hid hge
  have HQN := Lib.hid h.hn
  have hmf := hmf_X
  clear h hs hge e0 e1 e2 e3 l1 l2
  go_enter Tryz.func90, Tryz.ntmps90
  go_upto_region 3 with (fail)
  obtain ⟨w0, hw0⟩ : ∃ W, W = ((((w.alloc (.cells #[.pointer (some ⟨B, 0, none⟩)] 88)).alloc (.cells #[.slice none 0 0, .slice none 0 0] 33)).alloc (.cells #[.func (.func 76) #[.pointer (some ⟨B, 0, none⟩)] #[]] 150)).alloc (.cells #[.slice none 0 0, .slice none 0 0] 33)) := ⟨_, rfl⟩
  rw [← hw0]
  have B00 : Hid (Below w.heap.size w w0) := by show Below _ _ _; rw [hw0]; exact belAlloc (belAlloc (belAlloc (bel1 w _) _) _) _
  have Q1 : Hid (w0.heap[w.heap.size]? = some (.cells #[.pointer (some ⟨B, 0, none⟩)] 88 (0, 0))) := by show _ = _; rw [hw0]; exact heap_al (heap_al (heap_al (heap_new_D w _) _) _) _
  have O0 : Hid (w0.heap[w.heap.size + 1]? = some (.cells #[.slice none 0 0, .slice none 0 0] 33 (0, 0))) := by show _ = _; rw [hw0]; exact heap_al (heap_al (heap_new2_D w _ _) _) _
  have Q3 : Hid (w0.heap[w.heap.size + 1 + 1]? = some (.cells #[.func (.func 76) #[.pointer (some ⟨B, 0, none⟩)] #[]] 150 (0, 0))) := by show _ = _; rw [hw0]; exact heap_al (heap_new3_X w _ _ _) _
  have R0 : Hid (w0.heap[w.heap.size + 1 + 1 + 1]? = some (.cells #[.slice none 0 0, .slice none 0 0] 33 (0, 0))) := by show _ = _; rw [hw0]; exact heap_new4_X w _ _ _ _
  have V00 : Hid (VRd n b B s w.heap.size (w.heap.size + 1 + 1) st w0) := ⟨H.out.below B00.out, (heap_cell Q1.out 0).trans rfl, (heap_cell Q3.out 0).trans rfl, HQN.out, by have := HQN.out; omega, HGE.out⟩
  clear hw0
  obtain ⟨q, hq⟩ : ∃ p, p = w.heap.size + 1 + 1 + 1 := ⟨_, rfl⟩
  rw [← hq] at R0 ⊢
  obtain ⟨p3, hp3⟩ : ∃ p, p = w.heap.size + 1 + 1 := ⟨_, rfl⟩
  rw [← hp3] at V00 ⊢
  obtain ⟨r, hr⟩ : ∃ p, p = w.heap.size + 1 := ⟨_, rfl⟩
  rw [← hr] at O0 ⊢
  obtain ⟨p1, hp1⟩ : ∃ p, p = w.heap.size := ⟨_, rfl⟩
  rw [← hp1] at V00 ⊢
  have QN : Hid (n ≤ q ∧ n ≤ r ∧ r < q ∧ w.heap.size ≤ r ∧ p1 ≠ q ∧ p3 ≠ q) := by have := HQN.out; exact ⟨by omega, by omega, by omega, by omega, by omega, by omega⟩
  clear hq hp3 hr hp1 Q1 Q3
  have V0 := V00
  have P0 := Lib.hid (IPost.of_below H.out B00.out)
  go_wp2_with fail
  refine wp_region_E (S := fun W => W.cell? ⟨p1, 0, none⟩ = some (.pointer (some ⟨B, 0, none⟩)) ∧ W.cell? ⟨p3, 0, none⟩ = some (.func (.func 76) #[.pointer (some ⟨B, 0, none⟩)] #[]) ∧ W.cell? ⟨B, 0, none⟩ = some (.pointer (some ⟨b, 0, none⟩))) (by kernel_rfl) ?_
  have hbd := (Below.refl w0.heap.size w0).drew
  have Vd := Lib.hid (V0.out.below hbd)
  have Pd := Lib.hid (P0.out.below hbd)
  have Rd := Lib.hid ((hbd.block _ (lt_of_heap R0.out)).trans R0.out)
  have Od := Lib.hid ((hbd.block _ (lt_of_heap O0.out)).trans O0.out)
  clear hbd
  have hS := Vd.out.sw
  unfold SW at hS
  refine takeD (some 7) (i := 0) (v := ?_) rfl rfl (by kernel_rfl) (by kernel_rfl) (by kernel_rfl) (fun _ _ _ h => h) (Or.inl ⟨by rfl, ?_⟩) hS ?_
  rotate_left
  · (intro W hW; (try dsimp only at hW); go_simp; with_reducible rfl)
  simp only [Act.put, List.setIfInBounds_toArray, List.set_cons_zero, List.set_cons_succ]
  refine takeD (some 8) (i := 1) (v := ?_) rfl rfl (by kernel_rfl) (by kernel_rfl) (by kernel_rfl) (fun _ _ _ h => h) (Or.inl ⟨by rfl, ?_⟩) hS ?_
  rotate_left
  · (intro W hW; (try dsimp only at hW); go_simp; with_reducible rfl)
  simp only [Act.put, List.setIfInBounds_toArray, List.set_cons_zero, List.set_cons_succ]
  refine takeD (some 9) (i := 2) (v := ?_) rfl rfl (by kernel_rfl) (by kernel_rfl) (by kernel_rfl) (fun _ _ _ h => h) (Or.inl ⟨by rfl, ?_⟩) hS ?_
  rotate_left
  · (intro W hW; (try dsimp only at hW); go_simp; with_reducible rfl)
  simp only [Act.put, List.setIfInBounds_toArray, List.set_cons_zero, List.set_cons_succ]
  refine takeD (some 10) (i := 3) (v := ?_) rfl rfl (by kernel_rfl) (by kernel_rfl) (by kernel_rfl) (fun _ _ _ h => h) (Or.inl ⟨by rfl, ?_⟩) hS ?_
  rotate_left
  · (intro W hW; (try dsimp only at hW); go_simp; with_reducible rfl)
  simp only [Act.put, List.setIfInBounds_toArray, List.set_cons_zero, List.set_cons_succ]
  refine takeD (some 11) (i := 4) (v := ?_) rfl rfl (by kernel_rfl) (by kernel_rfl) (by kernel_rfl) (fun _ _ _ h => h) (Or.inl ⟨by rfl, ?_⟩) hS ?_
  rotate_left
  · (intro W hW; (try dsimp only at hW); go_simp; with_reducible rfl)
  simp only [Act.put, List.setIfInBounds_toArray, List.set_cons_zero, List.set_cons_succ]
  refine takeD (some 13) (i := 6) (v := ?_) rfl rfl (by kernel_rfl) (by kernel_rfl) (by kernel_rfl) (fun _ _ _ h => h) (Or.inl ⟨by rfl, ?_⟩) hS ?_
  rotate_left
  · (intro W hW; (try dsimp only at hW); go_simp; with_reducible rfl)
  simp only [Act.put, List.setIfInBounds_toArray, List.set_cons_zero, List.set_cons_succ]
  refine wpAnyE_ready (rs := [5]) (by kernel_rfl) (by simp) (AllReadyE.cons rfl (fun K hK => ?_) AllReadyE.nil)
  go_simp
  refine (vnumM_any 1000 _ Vd.out HS.out E0.out).mono ?_
  rintro _ wa0 ⟨rfl, hp⟩
  have Va := Lib.hid (Vd.out.post hp)
  have Pa := Lib.hid (Pd.out.trans hp)
  have Ra := Lib.hid (hp.heap Rd.out QN.out.1)
  have Oa := Lib.hid (hp.heap Od.out QN.out.2.1)
  clear hp
  refine hK.out _ _ Va.out.sw (fun _ => ?_)
  clear hK K
  refine wpAnyE_ready (rs := [7]) (by kernel_rfl) (by simp) (AllReadyE.cons rfl (fun K hK => ?_) AllReadyE.nil)
  go_simp
  refine (timesT_any n b B s p1 p3 _ m1 wa0 Va.out HS.out HM1.out).mono ?_
  rintro _ wb0 hT
  obtain ⟨x, rfl, hx, hms, hp⟩ := hT.ls
  rw [E1.out] at hms hp
  simp only at hms hp
  have X1 := Lib.hid hx
  have M1 := Lib.hid hms
  have HMA1 : Hid (w.heap.size ≤ wa0.heap.size ∧ n ≤ wa0.heap.size ∧ q < wa0.heap.size ∧ r < wa0.heap.size) := ⟨Pa.out.2.size, Nat.le_trans HQN.out Pa.out.2.size, lt_of_heap Ra.out, lt_of_heap Oa.out⟩
  have Vb := Lib.hid (Va.out.post hp)
  have Pb := Lib.hid (Pa.out.trans hp)
  have Rb := Lib.hid (hp.heap Ra.out QN.out.1)
  have Ob := Lib.hid (hp.heap Oa.out QN.out.2.1)
  clear hp hx hms hT
  refine hK.out _ _ Vb.out.sw (fun _ => ?_)
  clear hK K
  have hS := Vb.out.sw
  unfold SW at hS
  refine takeD (some 15) (i := 8) (v := ?_) rfl rfl (by kernel_rfl) (by kernel_rfl) (by kernel_rfl) (fun _ _ _ h => h) (Or.inl ⟨by rfl, ?_⟩) hS ?_
  rotate_left
  · (intro W hW; (try dsimp only at hW); go_simp; with_reducible rfl)
  simp only [Act.put, List.setIfInBounds_toArray, List.set_cons_zero, List.set_cons_succ]
  have cc := (heap_cell Rb.out 0).trans rfl
  have ff := Lib.frozen_of_heap Rb.out 0
  refine wpAnyE_ready (rs := [9]) (by kernel_rfl) (by simp) (AllReadyE.last rfl (by kernel_rfl) (fun K hK => ?_))
  go_simp
  refine hK.out _ _ ?_
  clear hK K cc ff
  refine wpAnyE_done (by kernel_rfl) ?_ _
  go_upto_region 4 with (fail)
  have hg : wb0.grownBy (wb0.setCell ⟨q, 0, none⟩ (.slice x.A x.z.size x.c)) (some q) := grown_setCell_M (World.grownBy.refl _ _) rfl _
  have P1 := Lib.hid (Pb.out.box Rb.out (by decide) (by have := QN.out.2.2.1; have := QN.out.2.2.2.1; omega) HQN.out HGE.out hg)
  have V1 := Lib.hid (Vb.out.box P1.out.1 hg QN.out.2.2.2.2.1 QN.out.2.2.2.2.2)
  have R1 := Lib.hid (heap_set Rb.out 0 (.slice x.A x.z.size x.c))
  have O1 := Lib.hid ((hg.block _ (lt_of_heap Ob.out) (by intro e; injection e with e; have := QN.out.2.2; omega)).trans Ob.out)
  have X1 := Lib.hid (X1.out.kf (KF.of_grown hg HMA1.out.2.2.1))
  obtain ⟨w1, hw1⟩ : ∃ W, W = wb0.setCell ⟨q, 0, none⟩ (.slice x.A x.z.size x.c) := ⟨_, rfl⟩
  rw [← hw1] at P1 V1 R1 O1 X1 ⊢
  clear hw1 hg Va Vb Pa Pb Ra Rb Oa Ob Vd Pd Rd Od V0 P0 R0 O0
  go_wp2_with fail
  refine wp_region_E (S := fun W => W.cell? ⟨p1, 0, none⟩ = some (.pointer (some ⟨B, 0, none⟩)) ∧ W.cell? ⟨p3, 0, none⟩ = some (.func (.func 76) #[.pointer (some ⟨B, 0, none⟩)] #[]) ∧ W.cell? ⟨B, 0, none⟩ = some (.pointer (some ⟨b, 0, none⟩))) (by kernel_rfl) ?_
  have hbd := (Below.refl w1.heap.size w1).drew
  have Vd := Lib.hid (V1.out.below hbd)
  have Pd := Lib.hid (P1.out.below hbd)
  have Rd := Lib.hid ((hbd.block _ (lt_of_heap R1.out)).trans R1.out)
  have Od := Lib.hid ((hbd.block _ (lt_of_heap O1.out)).trans O1.out)
  have X1 := Lib.hid (X1.out.kf (KF.of_below hbd))
  clear hbd
  have hS := Vd.out.sw
  unfold SW at hS
  refine takeD (some 16) (i := 0) (v := ?_) rfl rfl (by kernel_rfl) (by kernel_rfl) (by kernel_rfl) (fun _ _ _ h => h) (Or.inl ⟨by rfl, ?_⟩) hS ?_
  rotate_left
  · (intro W hW; (try dsimp only at hW); go_simp; with_reducible rfl)
  simp only [Act.put, List.setIfInBounds_toArray, List.set_cons_zero, List.set_cons_succ]
  refine takeD (some 17) (i := 1) (v := ?_) rfl rfl (by kernel_rfl) (by kernel_rfl) (by kernel_rfl) (fun _ _ _ h => h) (Or.inl ⟨by rfl, ?_⟩) hS ?_
  rotate_left
  · (intro W hW; (try dsimp only at hW); go_simp; with_reducible rfl)
  simp only [Act.put, List.setIfInBounds_toArray, List.set_cons_zero, List.set_cons_succ]
  refine takeD (some 18) (i := 2) (v := ?_) rfl rfl (by kernel_rfl) (by kernel_rfl) (by kernel_rfl) (fun _ _ _ h => h) (Or.inl ⟨by rfl, ?_⟩) hS ?_
  rotate_left
  · (intro W hW; (try dsimp only at hW); go_simp; with_reducible rfl)
  simp only [Act.put, List.setIfInBounds_toArray, List.set_cons_zero, List.set_cons_succ]
  refine takeD (some 19) (i := 3) (v := ?_) rfl rfl (by kernel_rfl) (by kernel_rfl) (by kernel_rfl) (fun _ _ _ h => h) (Or.inl ⟨by rfl, ?_⟩) hS ?_
  rotate_left
  · (intro W hW; (try dsimp only at hW); go_simp; with_reducible rfl)
  simp only [Act.put, List.setIfInBounds_toArray, List.set_cons_zero, List.set_cons_succ]
  refine takeD (some 20) (i := 4) (v := ?_) rfl rfl (by kernel_rfl) (by kernel_rfl) (by kernel_rfl) (fun _ _ _ h => h) (Or.inl ⟨by rfl, ?_⟩) hS ?_
  rotate_left
  · (intro W hW; (try dsimp only at hW); go_simp; with_reducible rfl)
  simp only [Act.put, List.setIfInBounds_toArray, List.set_cons_zero, List.set_cons_succ]
  refine takeD (some 22) (i := 6) (v := ?_) rfl rfl (by kernel_rfl) (by kernel_rfl) (by kernel_rfl) (fun _ _ _ h => h) (Or.inl ⟨by rfl, ?_⟩) hS ?_
  rotate_left
  · (intro W hW; (try dsimp only at hW); go_simp; with_reducible rfl)
  simp only [Act.put, List.setIfInBounds_toArray, List.set_cons_zero, List.set_cons_succ]
  refine wpAnyE_ready (rs := [5]) (by kernel_rfl) (by simp) (AllReadyE.cons rfl (fun K hK => ?_) AllReadyE.nil)
  go_simp
  refine (vnumM_any 1000 _ Vd.out HS.out E2.out).mono ?_
  rintro _ wa1 ⟨rfl, hp⟩
  have Va := Lib.hid (Vd.out.post hp)
  have Pa := Lib.hid (Pd.out.trans hp)
  have Ra := Lib.hid (hp.heap Rd.out QN.out.1)
  have Oa := Lib.hid (hp.heap Od.out QN.out.2.1)
  have X1 := Lib.hid (X1.out.kf (KF.of_post hp HMA1.out.2.1))
  clear hp
  refine hK.out _ _ Va.out.sw (fun _ => ?_)
  clear hK K
  refine wpAnyE_ready (rs := [7]) (by kernel_rfl) (by simp) (AllReadyE.cons rfl (fun K hK => ?_) AllReadyE.nil)
  go_simp
  refine (timesS_any n b B s p1 p3 _ m2 wa1 Va.out HS.out HM2.out).mono ?_
  rintro _ wb1 hT
  obtain ⟨y, rfl, hx, hms, hp⟩ := hT.ls
  rw [E3.out] at hms hp
  simp only at hms hp
  have X2 := Lib.hid hx
  have M2 := Lib.hid hms
  have HMA2 : Hid (w.heap.size ≤ wa1.heap.size ∧ n ≤ wa1.heap.size ∧ q < wa1.heap.size ∧ r < wa1.heap.size) := ⟨Pa.out.2.size, Nat.le_trans HQN.out Pa.out.2.size, lt_of_heap Ra.out, lt_of_heap Oa.out⟩
  have Vb := Lib.hid (Va.out.post hp)
  have Pb := Lib.hid (Pa.out.trans hp)
  have Rb := Lib.hid (hp.heap Ra.out QN.out.1)
  have Ob := Lib.hid (hp.heap Oa.out QN.out.2.1)
  have X1 := Lib.hid (X1.out.kf (KF.of_post hp HMA1.out.2.1))
  clear hp hx hms hT
  refine hK.out _ _ Vb.out.sw (fun _ => ?_)
  clear hK K
  have hS := Vb.out.sw
  unfold SW at hS
  refine takeD (some 24) (i := 8) (v := ?_) rfl rfl (by kernel_rfl) (by kernel_rfl) (by kernel_rfl) (fun _ _ _ h => h) (Or.inl ⟨by rfl, ?_⟩) hS ?_
  rotate_left
  · (intro W hW; (try dsimp only at hW); go_simp; with_reducible rfl)
  simp only [Act.put, List.setIfInBounds_toArray, List.set_cons_zero, List.set_cons_succ]
  have cc := (heap_cell Rb.out 1).trans rfl
  have ff := Lib.frozen_of_heap Rb.out 1
  refine wpAnyE_ready (rs := [9]) (by kernel_rfl) (by simp) (AllReadyE.last rfl (by kernel_rfl) (fun K hK => ?_))
  go_simp
  refine hK.out _ _ ?_
  clear hK K cc ff
  refine wpAnyE_done (by kernel_rfl) ?_ _
  go_upto_region 5 with (fail)
  have hg : wb1.grownBy (wb1.setCell ⟨q, 1, none⟩ (.slice y.A y.z.size y.c)) (some q) := grown_setCell_M (World.grownBy.refl _ _) rfl _
  have P2 := Lib.hid (Pb.out.box Rb.out (by decide) (by have := QN.out.2.2.1; have := QN.out.2.2.2.1; omega) HQN.out HGE.out hg)
  have V2 := Lib.hid (Vb.out.box P2.out.1 hg QN.out.2.2.2.2.1 QN.out.2.2.2.2.2)
  have R2 := Lib.hid (heap_set Rb.out 1 (.slice y.A y.z.size y.c))
  have O2 := Lib.hid ((hg.block _ (lt_of_heap Ob.out) (by intro e; injection e with e; have := QN.out.2.2; omega)).trans Ob.out)
  have X1 := Lib.hid (X1.out.kf (KF.of_grown hg HMA1.out.2.2.1))
  have X2 := Lib.hid (X2.out.kf (KF.of_grown hg HMA2.out.2.2.1))
  obtain ⟨w2, hw2⟩ : ∃ W, W = wb1.setCell ⟨q, 1, none⟩ (.slice y.A y.z.size y.c) := ⟨_, rfl⟩
  rw [← hw2] at P2 V2 R2 O2 X1 X2 ⊢
  clear hw2 hg Va Vb Pa Pb Ra Rb Oa Ob Vd Pd Rd Od V1 P1 R1 O1
  have d0 := (heap_cell R2.out 0).trans rfl
  have d1 := (heap_cell R2.out 1).trans rfl
  have o0 := (heap_cell O2.out 0).trans rfl
  have o1 := (heap_cell O2.out 1).trans rfl
  have f0 := Lib.frozen_of_heap O2.out 0
  have f1 := Lib.frozen_of_heap O2.out 1
  have hl := lt_of_heap O2.out
  go_wp2
  have hE : ((w2.setCell ⟨r, 0, none⟩ (.slice x.A x.z.size x.c)).setCell ⟨r, 1, none⟩ (.slice y.A y.z.size y.c)).heap[r]? = some (.cells #[.slice x.A x.z.size x.c, .slice y.A y.z.size y.c] 33 (0, 0)) := heap_set (heap_set O2.out 0 _) 1 _
  have k0 := (heap_cell hE 0).trans rfl
  have k1 := (heap_cell hE 1).trans rfl
  refine bodyPost_ret (v := .agg #[.slice x.A x.z.size x.c, .slice y.A y.z.size y.c]) (by simp [results, Tryz.results90, go_sem, k0, k1]) rfl ?_
  have hg : w2.grownBy ((w2.setCell ⟨r, 0, none⟩ (.slice x.A x.z.size x.c)).setCell ⟨r, 1, none⟩ (.slice y.A y.z.size y.c)) (some r) := by
    repeat' (first | exact World.grownBy.refl _ _ | (refine grown_setCell_M ?_ rfl _))
  refine ⟨x, y, rfl, (X1.out.kf (KF.of_grown hg HMA1.out.2.2.2)).mono HMA1.out.1, (X2.out.kf (KF.of_grown hg HMA2.out.2.2.2)).mono HMA2.out.1, fun h0 => ⟨M1.out (HBK.out h0), M2.out h0⟩, P2.out.box O2.out (by decide) QN.out.2.2.2.1 HQN.out HGE.out hg⟩
end Go.Proofs.YtnmojicfmcbgmaaGreatDoor
