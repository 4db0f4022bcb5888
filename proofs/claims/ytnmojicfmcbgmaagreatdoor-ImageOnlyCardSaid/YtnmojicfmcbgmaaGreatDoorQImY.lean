/- The image's reader: what its closures read. -/
import Derived.Test.YtnmojicfmcbgmaaGreatDoorQImX
import Derived.Test.YtnmojicfmcbgmaaGreatDoorQOpenK
namespace Go.Proofs.YtnmojicfmcbgmaaGreatDoor
open Go.RowKit Go.Sort Go.Lib Nb
set_option maxRecDepth 100000
/-- The reader, a variable that points to it, and one that holds its method num. -/
structure VRd (n b B : Nat) (s : ByteArray) (p1 p3 : Nat) (st : IS) (w : World) : Prop where
  i : IRd n b B s st w
  v1 : w.cell? ⟨p1, 0, none⟩ = some (.pointer (some ⟨B, 0, none⟩))
  v3 : w.cell? ⟨p3, 0, none⟩ = some (.func (.func 76) #[.pointer (some ⟨B, 0, none⟩)] #[])
  h1 : n ≤ p1
  h3 : n ≤ p3
  ge : 0 < n
section
variable {n b B p1 p3 : Nat} {s : ByteArray} {st st' : IS} {w w' : World}
theorem VRd.post (h : VRd n b B s p1 p3 st w) (hp : IPost n b B s st' w w') : VRd n b B s p1 p3 st' w' := by
  have a := h.i.hb
  have c := h.i.hB
  have d := h.h1
  have e := h.h3
  exact ⟨hp.1, hp.2.cell (by show p1 ≠ b; omega) (by show p1 ≠ B; omega) h.v1, hp.2.cell (by show p3 ≠ b; omega) (by show p3 ≠ B; omega) h.v3, d, e, h.ge⟩
theorem IPost.trans {st2 : IS} {w2 : World} (h : IPost n b B s st' w w') (k : IPost n b B s st2 w' w2) : IPost n b B s st2 w w2 := ⟨k.1, h.2.trans k.2⟩
theorem IPost.below {w2 : World} (h : IPost n b B s st' w w') (hb : Below w'.heap.size w' w2) : IPost n b B s st' w w2 := ⟨h.1.below hb, h.2.below hb⟩
theorem IPost.of_below (h : IRd n b B s st w) (hb : Below w.heap.size w w') : IPost n b B s st w w' := ⟨h.below hb, Gr2.of_below hb⟩
theorem VRd.below (h : VRd n b B s p1 p3 st w) (hb : Below w.heap.size w w') : VRd n b B s p1 p3 st w' := h.post (IPost.of_below h.i hb)
/-- A box of the call's own has turned, that is no fault's. -/
theorem IPost.box {w2 : World} {g : Nat} {cs : Array Value} {T : TypeId} {f : Nat × Nat} (h : IPost n b B s st' w w') (hb : w'.heap[g]? = some (.cells cs T f)) (he : T ≠ 126) (hg : w.heap.size ≤ g) (hn : n ≤ w.heap.size) (hge : 0 < n) (hk : w'.grownBy w2 (some g)) : IPost n b B s st' w w2 :=
  ⟨h.1.apart hb he (Nat.le_trans hn hg) hge hk, h.2.own hk (fun g' e => by injection e with e; omega)⟩
/-- What is in a block of the call's own stays when it reads. -/
theorem IPost.heap {g : Nat} {o : Obj} (h : IPost n b B s st' w w') (hg : w.heap[g]? = some o) (hn : n ≤ g) : w'.heap[g]? = some o := by
  have h1 := h.1.hb
  have h2 := h.1.hB
  exact h.2.heap hg (by omega) (by omega)
end
theorem heap_k3 {w : World} {g : Nat} {a b c : Value} {T : TypeId} (h : w.heap[g]? = some (.cells #[a, b, c] T (0, 0))) (a' b' c' : Value) : (((w.setCell ⟨g, 0, none⟩ a').setCell ⟨g, 1, none⟩ b').setCell ⟨g, 2, none⟩ c').heap[g]? = some (.cells #[a', b', c'] T (0, 0)) := by
  rw [heap_set (heap_set (heap_set h 0 a') 1 b') 2 c']; rfl
theorem heap_k4 {w : World} {g : Nat} {a b c d : Value} {T : TypeId} (h : w.heap[g]? = some (.cells #[a, b, c, d] T (0, 0))) (a' b' c' d' : Value) : ((((w.setCell ⟨g, 0, none⟩ a').setCell ⟨g, 1, none⟩ b').setCell ⟨g, 2, none⟩ c').setCell ⟨g, 3, none⟩ d').heap[g]? = some (.cells #[a', b', c', d'] T (0, 0)) := by
  rw [heap_set (heap_set (heap_set (heap_set h 0 a') 1 b') 2 c') 3 d']; rfl
/-- num of a variable that holds it. -/
theorem vnum_any {n b B p1 p3 : Nat} {s : ByteArray} {st : IS} {w : World} (h : VRd n b B s p1 p3 st w) (hs : s.size ≤ 1000000) {st' : IS} {x : Nat} (hx : nC.rd s.data.toList st = (st', x)) :
    Calls Tryz.prog 76 #[.pointer (some ⟨B, 0, none⟩)] w fun e w' => e = .returned (.int .i64 (x : Int)) ∧ IPost n b B s st' w w' := by
  have := inum_any n b B s st w h.i hs
  rw [hx] at this
  exact this
/-- A text of the reader. -/
theorem vtext_any {n b B p1 p3 : Nat} {s : ByteArray} {st : IS} {w : World} (h : VRd n b B s p1 p3 st w) (hs : s.size ≤ 1000000) {st' : IS} {x : List UInt8} (hx : (textC 300 (by decide)).rd s.data.toList st = (st', x)) :
    Calls Tryz.prog 135 #[.pointer (some ⟨b, 0, none⟩), .int .i64 300] w fun e w' => e = .returned (.string ⟨x.toArray⟩) ∧ IPost n b B s st' w w' := by
  have := RText_any b s st.r 300 w h.i.rd h.i.gl hs
  have e1 : (textR s.data.toList 300 st.r).1 = st'.r := by have := congrArg (fun q => q.1.r) hx; exact this
  have e2 : (textR s.data.toList 300 st.r).2 = x := congrArg (fun q => q.2) hx
  have e3 : st.odd = st'.odd := by have := congrArg (fun q => q.1.odd) hx; exact this
  rw [e2, e1] at this
  refine this.mono ?_
  rintro e w' ⟨h1, h2⟩
  have h3 := h.i.rpost h2
  rw [e3] at h3
  exact ⟨h1, h3, h2.gr2⟩
/-- A kind of elements: their cells, what it means that they are read, their rows' blocks. -/
structure KD (α : Type) [Inhabited α] where
  en : α → List Value
  k : Nat
  rd : World → α → Prop
  rw : α → Nat → Prop
  hk : ∀ x, (en x).length = k
  h1 : ∀ x, ∀ u ∈ en x, u.oneCell' = true
  lt : ∀ {w x blk}, rd w x → rw x blk → blk < w.heap.size
  keep : ∀ {w w' x}, rd w x → w.heap.size ≤ w'.heap.size → (∀ blk, rw x blk → w'.heap[blk]? = w.heap[blk]?) → rd w' x
/-- The block of a row that is not empty. -/
def rwB {α : Type} (A : Option Addr) (d : Array α) (blk : Nat) : Prop := 0 < d.size ∧ ∃ a, A = some a ∧ a.block = blk
theorem RdK.ltB {α : Type} [Inhabited α] {enc : α → List Value} {k : Nat} {w : World} {A : Option Addr} {d : Array α} {blk : Nat} (h : RdK enc k w.heap.size w A d) (hb : rwB A d blk) : blk < w.heap.size := by
  obtain ⟨h0, a, rfl, rfl⟩ := hb
  obtain ⟨g, off, e, hlt, _⟩ := h h0
  injection e with e
  rw [e]
  exact hlt
theorem RdK.keepB {α : Type} [Inhabited α] {enc : α → List Value} {k : Nat} {w w' : World} {A : Option Addr} {d : Array α} (h : RdK enc k w.heap.size w A d) (hs : w.heap.size ≤ w'.heap.size) (hb : ∀ blk, rwB A d blk → w'.heap[blk]? = w.heap[blk]?) : RdK enc k w'.heap.size w' A d := fun h0 => by
  obtain ⟨g, off, e, hlt, hc⟩ := h h0
  exact ⟨g, off, e, Nat.lt_of_lt_of_le hlt hs, fun t ht => (World.cell?_of_block (a := ⟨g, off + t, none⟩) (hb g ⟨h0, _, e, rfl⟩)).trans (hc t ht)⟩
theorem RdI_R.ltB {w : World} {A : Option Addr} {d : Array Int} {blk : Nat} (h : RdI_R w.heap.size w A d) (hb : rwB A d blk) : blk < w.heap.size := by
  obtain ⟨h0, a, rfl, rfl⟩ := hb
  obtain ⟨g, off, e, hlt, _⟩ := h h0
  injection e with e
  rw [e]
  exact hlt
theorem RdI_R.keepB {w w' : World} {A : Option Addr} {d : Array Int} (h : RdI_R w.heap.size w A d) (hs : w.heap.size ≤ w'.heap.size) (hb : ∀ blk, rwB A d blk → w'.heap[blk]? = w.heap[blk]?) : RdI_R w'.heap.size w' A d := fun h0 => by
  obtain ⟨g, off, e, hlt, hc⟩ := h h0
  exact ⟨g, off, e, Nat.lt_of_lt_of_le hlt hs, fun t ht => (World.cell?_of_block (a := ⟨g, off + t, none⟩) (hb g ⟨h0, _, e, rfl⟩)).trans (hc t ht)⟩
def kdE : KD EN where
  en := encE
  k := 10
  rd w e := RdE0 w e
  rw e blk := rwB e.A e.z blk
  hk _ := rfl
  h1 := encE_1
  lt h hb := h.rd.ltB hb
  keep h hs hb := ⟨h.rd.keepB hs hb, h.cz⟩
def kdK : KD KE where
  en := encKE
  k := 3
  rd w x := RdKE w x
  rw x blk := rwB x.r.A x.r.z blk ∨ rwB x.a.A x.a.z blk
  hk _ := rfl
  h1 := encKE_1
  lt h hb := by
    rcases hb with hb | hb
    · exact h.r.rd.ltB hb
    · exact h.a.rd.ltB hb
  keep h hs hb := ⟨⟨h.r.rd.keepB hs fun blk k => hb blk (Or.inl k), h.r.no⟩, ⟨h.a.rd.keepB hs fun blk k => hb blk (Or.inr k), h.a.no⟩⟩
def kdI : KD (RW Int) where
  en := encW
  k := 1
  rd w x := RdJ w x
  rw x blk := rwB x.A x.z blk
  hk _ := rfl
  h1 := encW_1
  lt h hb := h.rd.ltB hb
  keep h hs hb := ⟨h.rd.keepB hs hb, h.cz, h.no⟩
def kdD : KD (RW (Int × Int)) where
  en := encW
  k := 1
  rd w x := RdW encR 2 w x
  rw x blk := rwB x.A x.z blk
  hk _ := rfl
  h1 := encW_1
  lt h hb := h.rd.ltB hb
  keep h hs hb := ⟨h.rd.keepB hs hb, h.cz, h.no⟩
def kdT : KD IT where
  en := encIT
  k := 4
  rd _ _ := True
  rw _ _ := False
  hk _ := rfl
  h1 := encIT_1
  lt _ hb := hb.elim
  keep _ _ _ := trivial
def kdS : KD SS where
  en := encSS
  k := 3
  rd _ _ := True
  rw _ _ := False
  hk _ := rfl
  h1 := encSS_1
  lt _ hb := hb.elim
  keep _ _ _ := trivial
/-- What reading one element tells. -/
def OfP {α β : Type} [Inhabited α] (kd : KD α) (pc : α → β) (nn : α → Prop) (val : α → Value) (n b B : Nat) (s : ByteArray) (r : IS × β) (w : World) (e : Ending) (w' : World) : Prop :=
  ∃ x, e = .returned (val x) ∧ kd.rd w' x ∧ (∀ blk, kd.rw x blk → w.heap.size ≤ blk) ∧ pc x = r.2 ∧ nn x ∧ IPost n b B s r.1 w w'
theorem manyR4 {α : Type} {f : IS → IS × α} {s0 s1 s2 s3 s4 : IS} {x0 x1 x2 x3 : α} (e0 : f s0 = (s1, x0)) (e1 : f s1 = (s2, x1)) (e2 : f s2 = (s3, x2)) (e3 : f s3 = (s4, x3)) : manyR f 4 s0 = (s4, [x0, x1, x2, x3]) := by
  simp only [manyR, e0, e1, e2, e3]
theorem manyR2 {α : Type} {f : IS → IS × α} {s0 s1 s2 : IS} {x0 x1 : α} (e0 : f s0 = (s1, x0)) (e1 : f s1 = (s2, x1)) : manyR f 2 s0 = (s2, [x0, x1]) := by
  simp only [manyR, e0, e1]
theorem manyR8 {α : Type} {f : IS → IS × α} {s0 s1 s2 s3 s4 s5 s6 s7 s8 : IS} {x0 x1 x2 x3 x4 x5 x6 x7 : α} (e0 : f s0 = (s1, x0)) (e1 : f s1 = (s2, x1)) (e2 : f s2 = (s3, x2)) (e3 : f s3 = (s4, x3)) (e4 : f s4 = (s5, x4)) (e5 : f s5 = (s6, x5)) (e6 : f s6 = (s7, x6)) (e7 : f s7 = (s8, x7)) : manyR f 8 s0 = (s8, [x0, x1, x2, x3, x4, x5, x6, x7]) := by
  simp only [manyR, e0, e1, e2, e3, e4, e5, e6, e7]
theorem pair_rd {α β : Type} {c : Cod α} {d : Cod β} {s : List UInt8} {s0 s1 s2 : IS} {x : α} {y : β} (e0 : c.rd s s0 = (s1, x)) (e1 : d.rd s s1 = (s2, y)) : (c.pair d).rd s s0 = (s2, (x, y)) := by
  show ((d.rd s (c.rd s s0).1).1, ((c.rd s s0).2, (d.rd s (c.rd s s0).1).2)) = _
  rw [e0, e1]
def SW (p1 p3 b B : Nat) (W : World) : Prop := W.cell? ⟨p1, 0, none⟩ = some (.pointer (some ⟨B, 0, none⟩)) ∧ W.cell? ⟨p3, 0, none⟩ = some (.func (.func 76) #[.pointer (some ⟨B, 0, none⟩)] #[]) ∧ W.cell? ⟨B, 0, none⟩ = some (.pointer (some ⟨b, 0, none⟩))
theorem VRd.sw {n b B p1 p3 : Nat} {s : ByteArray} {st : IS} {w : World} (h : VRd n b B s p1 p3 st w) : SW p1 p3 b B w := ⟨h.v1, h.v3, h.i.c0⟩
set_option maxHeartbeats 1000000 in
theorem item_any {n b B p1 p3 : Nat} {s : ByteArray} {st : IS} {w : World} (h : VRd n b B s p1 p3 st w) (hs : s.size ≤ 1000000) :
    Calls Tryz.prog 140 #[.pointer (some ⟨p3, 0, none⟩)] w fun e w' => OfP kdT itM nnT (fun x => .agg (encIT x).toArray) n b B s ((nC.vec 4).rd s.data.toList st) w e w' := by
  rcases e0 : nC.rd s.data.toList st with ⟨st1, x0⟩
  rcases e1 : nC.rd s.data.toList st1 with ⟨st2, x1⟩
  rcases e2 : nC.rd s.data.toList st2 with ⟨st3, x2⟩
  rcases e3 : nC.rd s.data.toList st3 with ⟨st4, x3⟩
  have EE : Hid ((nC.vec 4).rd s.data.toList st = (st4, [x0, x1, x2, x3])) := manyR4 e0 e1 e2 e3
  have E0 := Lib.hid e0
  have E1 := Lib.hid e1
  have E2 := Lib.hid e2
  have E3 := Lib.hid e3
  rw [EE.out]
  clear e0 e1 e2 e3
  have H := Lib.hid h
  have HS := Lib.hid hs
  have HQN := Lib.hid h.i.hn
  clear h hs
  go_enter Tryz.func140, Tryz.ntmps140
  go_wp2_with fail
  refine wp_region_E (S := fun W => W.cell? ⟨p1, 0, none⟩ = some (.pointer (some ⟨B, 0, none⟩)) ∧ W.cell? ⟨p3, 0, none⟩ = some (.func (.func 76) #[.pointer (some ⟨B, 0, none⟩)] #[]) ∧ W.cell? ⟨B, 0, none⟩ = some (.pointer (some ⟨b, 0, none⟩))) (by kernel_rfl) ?_
  have B0 := Lib.hid (bel1 w (.cells #[.int .i64 0, .int .i64 0, .int .i64 0, .int .i64 0] 84)).drew
  have V0 := Lib.hid (H.out.below B0.out)
  have P0 := Lib.hid (IPost.of_below H.out.i B0.out)
  have Q0 := Lib.hid (hA1 w (.cells #[.int .i64 0, .int .i64 0, .int .i64 0, .int .i64 0] 84))
  have hS := V0.out.sw
  unfold SW at hS
  refine takeD (some 2) (i := 0) (v := ?_) rfl rfl (by kernel_rfl) (by kernel_rfl) (by kernel_rfl) (fun _ _ _ h => h) (Or.inl ⟨by rfl, ?_⟩) hS ?_
  rotate_left
  · (intro W hW; (try dsimp only at hW); go_simp; with_reducible rfl)
  simp only [Act.put, List.setIfInBounds_toArray, List.set_cons_zero, List.set_cons_succ]
  refine takeD (some 4) (i := 2) (v := ?_) rfl rfl (by kernel_rfl) (by kernel_rfl) (by kernel_rfl) (fun _ _ _ h => h) (Or.inl ⟨by rfl, ?_⟩) hS ?_
  rotate_left
  · (intro W hW; (try dsimp only at hW); go_simp; with_reducible rfl)
  simp only [Act.put, List.setIfInBounds_toArray, List.set_cons_zero, List.set_cons_succ]
  refine takeD (some 6) (i := 4) (v := ?_) rfl rfl (by kernel_rfl) (by kernel_rfl) (by kernel_rfl) (fun _ _ _ h => h) (Or.inl ⟨by rfl, ?_⟩) hS ?_
  rotate_left
  · (intro W hW; (try dsimp only at hW); go_simp; with_reducible rfl)
  simp only [Act.put, List.setIfInBounds_toArray, List.set_cons_zero, List.set_cons_succ]
  refine takeD (some 8) (i := 6) (v := ?_) rfl rfl (by kernel_rfl) (by kernel_rfl) (by kernel_rfl) (fun _ _ _ h => h) (Or.inl ⟨by rfl, ?_⟩) hS ?_
  rotate_left
  · (intro W hW; (try dsimp only at hW); go_simp; with_reducible rfl)
  simp only [Act.put, List.setIfInBounds_toArray, List.set_cons_zero, List.set_cons_succ]
  refine wpAnyE_ready (rs := [1]) (by kernel_rfl) (by simp) (AllReadyE.cons rfl (fun K hK => ?_) AllReadyE.nil)
  go_simp
  refine (vnum_any V0.out HS.out E0.out).mono ?_
  rintro _ w1 ⟨rfl, hp⟩
  have V1 := Lib.hid (V0.out.post hp)
  have P1 := Lib.hid (P0.out.trans hp)
  have Q1 := Lib.hid (hp.heap Q0.out HQN.out)
  clear hp
  refine hK.out _ _ V1.out.sw (fun _ => ?_)
  clear hK K
  refine wpAnyE_ready (rs := [3]) (by kernel_rfl) (by simp) (AllReadyE.cons rfl (fun K hK => ?_) AllReadyE.nil)
  go_simp
  refine (vnum_any V1.out HS.out E1.out).mono ?_
  rintro _ w2 ⟨rfl, hp⟩
  have V2 := Lib.hid (V1.out.post hp)
  have P2 := Lib.hid (P1.out.trans hp)
  have Q2 := Lib.hid (hp.heap Q1.out HQN.out)
  clear hp
  refine hK.out _ _ V2.out.sw (fun _ => ?_)
  clear hK K
  refine wpAnyE_ready (rs := [5]) (by kernel_rfl) (by simp) (AllReadyE.cons rfl (fun K hK => ?_) AllReadyE.nil)
  go_simp
  refine (vnum_any V2.out HS.out E2.out).mono ?_
  rintro _ w3 ⟨rfl, hp⟩
  have V3 := Lib.hid (V2.out.post hp)
  have P3 := Lib.hid (P2.out.trans hp)
  have Q3 := Lib.hid (hp.heap Q2.out HQN.out)
  clear hp
  refine hK.out _ _ V3.out.sw (fun _ => ?_)
  clear hK K
  refine wpAnyE_ready (rs := [7]) (by kernel_rfl) (by simp) (AllReadyE.cons rfl (fun K hK => ?_) AllReadyE.nil)
  go_simp
  refine (vnum_any V3.out HS.out E3.out).mono ?_
  rintro _ w4 ⟨rfl, hp⟩
  have V4 := Lib.hid (V3.out.post hp)
  have P4 := Lib.hid (P3.out.trans hp)
  have Q4 := Lib.hid (hp.heap Q3.out HQN.out)
  clear hp
  refine hK.out _ _ V4.out.sw (fun _ => ?_)
  clear hK K
  have hS := V4.out.sw
  unfold SW at hS
  refine takeD (some 10) (i := 8) (v := ?_) rfl rfl (by kernel_rfl) (by kernel_rfl) (by kernel_rfl) (fun _ _ _ h => h) (Or.inl ⟨by rfl, ?_⟩) hS ?_
  rotate_left
  · (intro W hW; (try dsimp only at hW); go_simp; with_reducible rfl)
  simp only [Act.put, List.setIfInBounds_toArray, List.set_cons_zero, List.set_cons_succ]
  have c0 := (heap_cell Q4.out 0).trans rfl
  have f0 := Lib.frozen_of_heap Q4.out 0
  have c1 := (heap_cell Q4.out 1).trans rfl
  have f1 := Lib.frozen_of_heap Q4.out 1
  have c2 := (heap_cell Q4.out 2).trans rfl
  have f2 := Lib.frozen_of_heap Q4.out 2
  have c3 := (heap_cell Q4.out 3).trans rfl
  have f3 := Lib.frozen_of_heap Q4.out 3
  have hqlt := lt_of_heap Q4.out
  refine wpAnyE_ready (rs := [9]) (by kernel_rfl) (by simp) (AllReadyE.last rfl (by kernel_rfl) (fun K hK => ?_))
  go_simp
  refine hK.out _ _ ?_
  clear hK K c0 f0 c1 f1 c2 f2 c3 f3 hqlt
  refine wpAnyE_done (by kernel_rfl) ?_ _
  go_wp2
  have hE := heap_k4 Q4.out (.int .i64 (x0 : Int)) (.int .i64 (x1 : Int)) (.int .i64 (x2 : Int)) (.int .i64 (x3 : Int))
  have k0 := (heap_cell hE 0).trans rfl
  have k1 := (heap_cell hE 1).trans rfl
  have k2 := (heap_cell hE 2).trans rfl
  have k3 := (heap_cell hE 3).trans rfl
  refine bodyPost_ret (v := .agg #[.int .i64 (x0 : Int), .int .i64 (x1 : Int), .int .i64 (x2 : Int), .int .i64 (x3 : Int)]) (by simp [results, Tryz.results140, go_sem, k0, k1, k2, k3]) rfl ?_
  refine ⟨⟨(x0 : Int), (x1 : Int), (x2 : Int), (x3 : Int)⟩, rfl, trivial, (fun _ h => h.elim), rfl, by unfold nnT; simp only; omega, ?_⟩
  exact P4.out.box Q4.out (by decide) (Nat.le_refl _) HQN.out H.out.ge (by repeat' (first | exact World.grownBy.refl _ _ | (refine grown_setCell_M ?_ rfl _)))
set_option maxHeartbeats 1000000 in
theorem sess_any {n b B p1 p3 : Nat} {s : ByteArray} {st : IS} {w : World} (h : VRd n b B s p1 p3 st w) (hs : s.size ≤ 1000000) :
    Calls Tryz.prog 142 #[.pointer (some ⟨p3, 0, none⟩), .pointer (some ⟨p1, 0, none⟩)] w fun e w' => OfP kdS seM nnS (fun x => .agg (encSS x).toArray) n b B s (seC.rd s.data.toList st) w e w' := by
  rcases e0 : nC.rd s.data.toList st with ⟨st1, x0⟩
  rcases e1 : nC.rd s.data.toList st1 with ⟨st2, x1⟩
  rcases e2 : (textC 300 (by decide)).rd s.data.toList st2 with ⟨st3, x2⟩
  have EE : Hid (seC.rd s.data.toList st = (st3, ([x0, x1], x2))) := pair_rd (manyR2 e0 e1) e2
  have E0 := Lib.hid e0
  have E1 := Lib.hid e1
  have E2 := Lib.hid e2
  rw [EE.out]
  clear e0 e1 e2
  have H := Lib.hid h
  have HS := Lib.hid hs
  have HQN := Lib.hid h.i.hn
  clear h hs
  go_enter Tryz.func142, Tryz.ntmps142
  go_wp2_with fail
  refine wp_region_E (S := fun W => W.cell? ⟨p1, 0, none⟩ = some (.pointer (some ⟨B, 0, none⟩)) ∧ W.cell? ⟨p3, 0, none⟩ = some (.func (.func 76) #[.pointer (some ⟨B, 0, none⟩)] #[]) ∧ W.cell? ⟨B, 0, none⟩ = some (.pointer (some ⟨b, 0, none⟩))) (by kernel_rfl) ?_
  have B0 := Lib.hid (bel1 w (.cells #[.int .i64 0, .int .i64 0, .string ⟨#[]⟩] 86)).drew
  have V0 := Lib.hid (H.out.below B0.out)
  have P0 := Lib.hid (IPost.of_below H.out.i B0.out)
  have Q0 := Lib.hid (hA1 w (.cells #[.int .i64 0, .int .i64 0, .string ⟨#[]⟩] 86))
  have hS := V0.out.sw
  unfold SW at hS
  refine takeD (some 3) (i := 0) (v := ?_) rfl rfl (by kernel_rfl) (by kernel_rfl) (by kernel_rfl) (fun _ _ _ h => h) (Or.inl ⟨by rfl, ?_⟩) hS ?_
  rotate_left
  · (intro W hW; (try dsimp only at hW); go_simp; with_reducible rfl)
  simp only [Act.put, List.setIfInBounds_toArray, List.set_cons_zero, List.set_cons_succ]
  refine takeD (some 5) (i := 2) (v := ?_) rfl rfl (by kernel_rfl) (by kernel_rfl) (by kernel_rfl) (fun _ _ _ h => h) (Or.inl ⟨by rfl, ?_⟩) hS ?_
  rotate_left
  · (intro W hW; (try dsimp only at hW); go_simp; with_reducible rfl)
  simp only [Act.put, List.setIfInBounds_toArray, List.set_cons_zero, List.set_cons_succ]
  refine takeD (some 7) (i := 4) (v := ?_) rfl rfl (by kernel_rfl) (by kernel_rfl) (by kernel_rfl) (fun _ _ _ h => h) (Or.inl ⟨by rfl, ?_⟩) hS ?_
  rotate_left
  · (intro W hW; (try dsimp only at hW); go_simp; with_reducible rfl)
  simp only [Act.put, List.setIfInBounds_toArray, List.set_cons_zero, List.set_cons_succ]
  refine takeD (some 8) (i := 5) (v := ?_) rfl rfl (by kernel_rfl) (by kernel_rfl) (by kernel_rfl) (fun _ _ _ h => h) (Or.inl ⟨by rfl, ?_⟩) hS ?_
  rotate_left
  · (intro W hW; (try dsimp only at hW); go_simp; with_reducible rfl)
  simp only [Act.put, List.setIfInBounds_toArray, List.set_cons_zero, List.set_cons_succ]
  refine takeD (some 9) (i := 6) (v := ?_) rfl rfl (by kernel_rfl) (by kernel_rfl) (by kernel_rfl) (fun _ _ _ h => h) (Or.inl ⟨by rfl, ?_⟩) hS ?_
  rotate_left
  · (intro W hW; (try dsimp only at hW); go_simp; with_reducible rfl)
  simp only [Act.put, List.setIfInBounds_toArray, List.set_cons_zero, List.set_cons_succ]
  refine takeD (some 10) (i := 7) (v := ?_) rfl rfl (by kernel_rfl) (by kernel_rfl) (by kernel_rfl) (fun _ _ _ h => h) (Or.inl ⟨by rfl, ?_⟩) hS ?_
  rotate_left
  · (intro W hW; (try dsimp only at hW); go_simp; with_reducible rfl)
  simp only [Act.put, List.setIfInBounds_toArray, List.set_cons_zero, List.set_cons_succ]
  refine wpAnyE_ready (rs := [1]) (by kernel_rfl) (by simp) (AllReadyE.cons rfl (fun K hK => ?_) AllReadyE.nil)
  go_simp
  refine (vnum_any V0.out HS.out E0.out).mono ?_
  rintro _ w1 ⟨rfl, hp⟩
  have V1 := Lib.hid (V0.out.post hp)
  have P1 := Lib.hid (P0.out.trans hp)
  have Q1 := Lib.hid (hp.heap Q0.out HQN.out)
  clear hp
  refine hK.out _ _ V1.out.sw (fun _ => ?_)
  clear hK K
  refine wpAnyE_ready (rs := [3]) (by kernel_rfl) (by simp) (AllReadyE.cons rfl (fun K hK => ?_) AllReadyE.nil)
  go_simp
  refine (vnum_any V1.out HS.out E1.out).mono ?_
  rintro _ w2 ⟨rfl, hp⟩
  have V2 := Lib.hid (V1.out.post hp)
  have P2 := Lib.hid (P1.out.trans hp)
  have Q2 := Lib.hid (hp.heap Q1.out HQN.out)
  clear hp
  refine hK.out _ _ V2.out.sw (fun _ => ?_)
  clear hK K
  refine wpAnyE_ready (rs := [8]) (by kernel_rfl) (by simp) (AllReadyE.cons rfl (fun K hK => ?_) AllReadyE.nil)
  go_simp
  refine (vtext_any V2.out HS.out E2.out).mono ?_
  rintro _ w3 ⟨rfl, hp⟩
  have V3 := Lib.hid (V2.out.post hp)
  have P3 := Lib.hid (P2.out.trans hp)
  have Q3 := Lib.hid (hp.heap Q2.out HQN.out)
  clear hp
  refine hK.out _ _ V3.out.sw (fun _ => ?_)
  clear hK K
  have hS := V3.out.sw
  unfold SW at hS
  refine takeD (some 12) (i := 9) (v := ?_) rfl rfl (by kernel_rfl) (by kernel_rfl) (by kernel_rfl) (fun _ _ _ h => h) (Or.inl ⟨by rfl, ?_⟩) hS ?_
  rotate_left
  · (intro W hW; (try dsimp only at hW); go_simp; with_reducible rfl)
  simp only [Act.put, List.setIfInBounds_toArray, List.set_cons_zero, List.set_cons_succ]
  have c0 := (heap_cell Q3.out 0).trans rfl
  have f0 := Lib.frozen_of_heap Q3.out 0
  have c1 := (heap_cell Q3.out 1).trans rfl
  have f1 := Lib.frozen_of_heap Q3.out 1
  have c2 := (heap_cell Q3.out 2).trans rfl
  have f2 := Lib.frozen_of_heap Q3.out 2
  have hqlt := lt_of_heap Q3.out
  refine wpAnyE_ready (rs := [10]) (by kernel_rfl) (by simp) (AllReadyE.last rfl (by kernel_rfl) (fun K hK => ?_))
  go_simp
  refine hK.out _ _ ?_
  clear hK K c0 f0 c1 f1 c2 f2 hqlt
  refine wpAnyE_done (by kernel_rfl) ?_ _
  go_wp2
  have hE := heap_k3 Q3.out (.int .i64 (x0 : Int)) (.int .i64 (x1 : Int)) (.string ⟨x2.toArray⟩)
  have k0 := (heap_cell hE 0).trans rfl
  have k1 := (heap_cell hE 1).trans rfl
  have k2 := (heap_cell hE 2).trans rfl
  refine bodyPost_ret (v := .agg #[.int .i64 (x0 : Int), .int .i64 (x1 : Int), .string ⟨x2.toArray⟩]) (by simp [results, Tryz.results142, go_sem, k0, k1, k2]) rfl ?_
  refine ⟨⟨(x0 : Int), (x1 : Int), ⟨x2.toArray⟩⟩, rfl, trivial, (fun _ h => h.elim), rfl, by unfold nnS; simp only; omega, ?_⟩
  exact P3.out.box Q3.out (by decide) (Nat.le_refl _) HQN.out H.out.ge (by repeat' (first | exact World.grownBy.refl _ _ | (refine grown_setCell_M ?_ rfl _)))
end Go.Proofs.YtnmojicfmcbgmaaGreatDoor
