/- The image's reader: a replica is read. -/
import Derived.Test.YtnmojicfmcbgmaaGreatDoorQIoD
import Derived.Test.YtnmojicfmcbgmaaGreatDoorQStG
namespace Go.Proofs.YtnmojicfmcbgmaaGreatDoor
open Go.RowKit Go.Sort Go.Lib Nb
set_option maxRecDepth 100000
theorem manyR9 {α : Type} {f : IS → IS × α} {s0 s1 s2 s3 s4 s5 s6 s7 s8 s9 : IS} {x0 x1 x2 x3 x4 x5 x6 x7 x8 : α} (e0 : f s0 = (s1, x0)) (e1 : f s1 = (s2, x1)) (e2 : f s2 = (s3, x2)) (e3 : f s3 = (s4, x3)) (e4 : f s4 = (s5, x4)) (e5 : f s5 = (s6, x5)) (e6 : f s6 = (s7, x6)) (e7 : f s7 = (s8, x7)) (e8 : f s8 = (s9, x8)) : manyR f 9 s0 = (s9, [x0, x1, x2, x3, x4, x5, x6, x7, x8]) := by
  simp only [manyR, e0, e1, e2, e3, e4, e5, e6, e7, e8]
theorem dep_rd {α β : Type} {c : Cod α} {d : α → Cod β} {s : List UInt8} {s0 s1 s2 : IS} {x : α} {y : β} (e0 : c.rd s s0 = (s1, x)) (e1 : (d x).rd s s1 = (s2, y)) : (c.dep d).rd s s0 = (s2, (x, y)) := by
  show (((d (c.rd s s0).2).rd s (c.rd s s0).1).1, ((c.rd s s0).2, ((d (c.rd s s0).2).rd s (c.rd s s0).1).2)) = _
  rw [e0]
  show (((d x).rd s s1).1, (x, ((d x).rd s s1).2)) = _
  rw [e1]
def kdA : KD (Int × Int) where
  en := encA_I
  k := 2
  rd _ _ := True
  rw _ _ := False
  hk _ := rfl
  h1 _ := by intro u hu; simp [encA_I] at hu; rcases hu with rfl | rfl <;> rfl
  lt _ hb := hb.elim
  keep _ _ _ := trivial
/-- A row of numbers in blocks from m on. -/
structure RdN0 (m : Nat) (x : RW Int) (W : World) : Prop where
  rd : RdI_R W.heap.size W x.A x.z
  cz : x.z.size ≤ x.c
  no : x.A = none → x.c = 0
  fr : Fr m x.A
theorem RdN0.kf {m : Nat} {x : RW Int} {W W' : World} (h : RdN0 m x W) (hk : KF m W W') : RdN0 m x W' := ⟨h.rd.kf h.fr hk, h.cz, h.no, h.fr⟩
theorem RdN0.mono {m m' : Nat} {x : RW Int} {W : World} (h : RdN0 m x W) (hm : m' ≤ m) : RdN0 m' x W := ⟨h.rd, h.cz, h.no, h.fr.mono hm⟩
/-- What reading a replica leaves. -/
def AllP (n b B : Nat) (s : ByteArray) (r : IS × RepT) (w : World) (e : Ending) (w' : World) : Prop :=
  ∃ R : RP, e = .returned (.agg (encP R).toArray) ∧ (∀ W', KF w.heap.size w' W' → RdP W' R) ∧ (r.1.r.e = 0 → repM R = r.2 ∧ NN R) ∧ IPost n b B s r.1 w w'
attribute [local go_sem ↓] execOp_loadRep execOp_storeRep
attribute [local go_sem] run_loadBox run_storeBox_any
/-- Behind a replica's first numbers: the box at q holds them. -/
structure AJ (n b B : Nat) (s : ByteArray) (p1 p3 r : Nat) (st : IS) (w : World) (zs cs : Array Value) (q : Nat) (W : World) : Prop where
  v : VRd n b B s p1 p3 st W
  p : IPost n b B s st w W
  o : W.heap[r]? = some (.cells zs 35 (0, 0))
  hr : W.heap[q]? = some (.cells cs 35 (0, 0))
  q1 : r < q ∧ p1 < q ∧ p3 < q
set_option maxHeartbeats 40000000 in
theorem iall_any (n b B : Nat) (s : ByteArray) (st : IS) (w : World) (h : IRd n b B s st w) (hge : 0 < n) (hs : s.size ≤ 1000000) :
    Calls Tryz.prog 39 #[.pointer (some ⟨B, 0, none⟩)] w fun e w' => AllP n b B s (repC.rd s.data.toList st) w e w' := by
  rcases e0 : (numC 9 (by decide)).rd s.data.toList st with ⟨st1, x0⟩
  rcases e1 : nC.rd s.data.toList st1 with ⟨st2, x1⟩
  rcases e2 : nC.rd s.data.toList st2 with ⟨st3, x2⟩
  rcases e3 : nC.rd s.data.toList st3 with ⟨st4, x3⟩
  rcases e4 : nC.rd s.data.toList st4 with ⟨st5, x4⟩
  rcases e5 : nC.rd s.data.toList st5 with ⟨st6, x5⟩
  rcases e6 : nC.rd s.data.toList st6 with ⟨st7, x6⟩
  rcases e7 : nC.rd s.data.toList st7 with ⟨st8, x7⟩
  rcases e8 : nC.rd s.data.toList st8 with ⟨st9, x8⟩
  rcases e9 : nC.rd s.data.toList st9 with ⟨st10, x9⟩
  rcases e10 : (enC.list 1000 (by decide)).rd s.data.toList st10 with ⟨st11, ge⟩
  rcases e11 : (rowC 2 (by decide)).rd s.data.toList st11 with ⟨st12, go⟩
  rcases e12 : (knC.vec x0).rd s.data.toList st12 with ⟨st13, gk⟩
  rcases e13 : ((rowC 1 (by decide)).vec x0).rd s.data.toList st13 with ⟨st14, gm⟩
  rcases e14 : (rowC 1 (by decide)).rd s.data.toList st14 with ⟨st15, gf⟩
  rcases e15 : ((rowC 2 (by decide)).vec x0).rd s.data.toList st15 with ⟨st16, gd⟩
  rcases e16 : (((nC.vec 4).list 1000 (by decide)).pair (seC.list 1000 (by decide))).rd s.data.toList st16 with ⟨st17, gi, gs⟩
  have EE : Hid (repC.rd s.data.toList st = (st17, ((x0, [x1, x2, x3, x4, x5, x6, x7, x8, x9]), (ge, (go, (gk, (gm, (gf, (gd, (gi, gs))))))))) ) :=
    dep_rd (pair_rd e0 (manyR9 e1 e2 e3 e4 e5 e6 e7 e8 e9)) (pair_rd e10 (pair_rd e11 (pair_rd e12 (pair_rd e13 (pair_rd e14 (pair_rd e15 e16))))))
  have B16 : Hid (st17.r.e = 0 → st16.r.e = 0) := stuck_back e16
  have B15 : Hid (st17.r.e = 0 → st15.r.e = 0) := fun h0 => stuck_back e15 (B16.out h0)
  have B14 : Hid (st17.r.e = 0 → st14.r.e = 0) := fun h0 => stuck_back e14 (B15.out h0)
  have B13 : Hid (st17.r.e = 0 → st13.r.e = 0) := fun h0 => stuck_back e13 (B14.out h0)
  have B12 : Hid (st17.r.e = 0 → st12.r.e = 0) := fun h0 => stuck_back e12 (B13.out h0)
  have B11 : Hid (st17.r.e = 0 → st11.r.e = 0) := fun h0 => stuck_back e11 (B12.out h0)
  have HM := Lib.hid (Nat.le_trans (numC_le e0) (show 9 ≤ 1000 by decide))
  have MO := Lib.hid (pairs_of (rowC_each e11))
  have E0 := Lib.hid e0
  have E1 := Lib.hid e1
  have E2 := Lib.hid e2
  have E3 := Lib.hid e3
  have E4 := Lib.hid e4
  have E5 := Lib.hid e5
  have E6 := Lib.hid e6
  have E7 := Lib.hid e7
  have E8 := Lib.hid e8
  have E9 := Lib.hid e9
  have E10 := Lib.hid e10
  have E11 := Lib.hid e11
  have E12 := Lib.hid e12
  have E13 := Lib.hid e13
  have E14 := Lib.hid e14
  have E15 := Lib.hid e15
  have E16 := Lib.hid e16
  rw [EE.out]
  have H := Lib.hid h
  have HS := Lib.hid hs
  have HGE := Lib.hid hge
  have HQN := Lib.hid h.hn
  have hmf := hmf_X
  clear h hs hge e0 e1 e2 e3 e4 e5 e6 e7 e8 e9 e10 e11 e12 e13 e14 e15 e16
  obtain ⟨zs, hzs⟩ : ∃ y, y = (#[.int .i64 0, .int .i64 0, .int .i64 0, .int .i64 0, .int .i64 0, .int .i64 0, .int .i64 0, .slice none 0 0, .slice none 0 0, .slice none 0 0, .slice none 0 0, .slice none 0 0, .slice none 0 0, .int .i64 0, .int .i64 0, .int .i64 0, .slice none 0 0, .slice none 0 0] : Array Value) := ⟨_, rfl⟩
  have HZ : zs.size = 18 := by rw [hzs]; rfl
  obtain ⟨cs, hcs⟩ : ∃ y, y = (#[.int .i64 (x0 : Int), .int .i64 (x1 : Int), .int .i64 (x2 : Int), .int .i64 (x3 : Int), .int .i64 (x4 : Int), .int .i64 (x5 : Int), .int .i64 (x6 : Int), .slice none 0 0, .slice none 0 0, .slice none 0 0, .slice none 0 0, .slice none 0 0, .slice none 0 0, .int .i64 0, .int .i64 0, .int .i64 0, .slice none 0 0, .slice none 0 0] : Array Value) := ⟨_, rfl⟩
  have HI : cs.size = 18 := by rw [hcs]; rfl
  have H1 : allOne cs = true := by rw [hcs]; simp [allOne, Value.oneCell']
  have HC2 := Lib.hid hcs
  have HZS := Lib.hid hzs
  clear hcs hzs
  go_enter Tryz.func39, Tryz.ntmps39
  go_upto_region 2 with (fail)
  rw [← HZS.out]
  obtain ⟨w00, hw0⟩ : ∃ W, W = (((w.alloc (.cells #[.pointer (some ⟨B, 0, none⟩)] 88)).alloc (.cells zs 35)).alloc (.cells #[.func (.func 76) #[.pointer (some ⟨B, 0, none⟩)] #[]] 150)) := ⟨_, rfl⟩
  rw [← hw0]
  have B00 : Hid (Below w.heap.size w w00) := by show Below _ _ _; rw [hw0]; exact belAlloc (belAlloc (bel1 w _) _) _
  have Q1 : Hid (w00.heap[w.heap.size]? = some (.cells #[.pointer (some ⟨B, 0, none⟩)] 88 (0, 0))) := by show _ = _; rw [hw0]; exact heap_al (heap_al (heap_new_D w _) _) _
  have O0 : Hid (w00.heap[w.heap.size + 1]? = some (.cells zs 35 (0, 0))) := by show _ = _; rw [hw0]; exact heap_al (heap_new2_D w _ _) _
  have Q3 : Hid (w00.heap[w.heap.size + 1 + 1]? = some (.cells #[.func (.func 76) #[.pointer (some ⟨B, 0, none⟩)] #[]] 150 (0, 0))) := by show _ = _; rw [hw0]; exact heap_new3_X w _ _ _
  have V00 : Hid (VRd n b B s w.heap.size (w.heap.size + 1 + 1) st w00) := ⟨H.out.below B00.out, (heap_cell Q1.out 0).trans rfl, (heap_cell Q3.out 0).trans rfl, HQN.out, by have := HQN.out; omega, HGE.out⟩
  have HSZ : Hid (w.heap.size + 1 + 1 < w00.heap.size) := lt_of_heap Q3.out
  clear hw0
  obtain ⟨p3, hp3⟩ : ∃ p, p = w.heap.size + 1 + 1 := ⟨_, rfl⟩
  rw [← hp3] at V00 HSZ ⊢
  obtain ⟨r, hr⟩ : ∃ p, p = w.heap.size + 1 := ⟨_, rfl⟩
  rw [← hr] at O0 ⊢
  obtain ⟨p1, hp1⟩ : ∃ p, p = w.heap.size := ⟨_, rfl⟩
  rw [← hp1] at V00 ⊢
  have QR : Hid (n ≤ r ∧ w.heap.size ≤ r ∧ p1 < p3 ∧ r < p3 ∧ p3 < w00.heap.size) := by have := HQN.out; have := HSZ.out; exact ⟨by omega, by omega, by omega, by omega, by omega⟩
  clear hp3 hr hp1 Q1 Q3 HSZ
  go_cut [4] from 7 to 24 (fun v wx => ∃ q, v = .pointer (some ⟨q, 0, none⟩) ∧ AJ n b B s p1 p3 r st7 w zs cs q wx)
  case first =>
    go_wp2_with fail
    refine wp_region_E (S := fun W => W.cell? ⟨p1, 0, none⟩ = some (.pointer (some ⟨B, 0, none⟩)) ∧ W.cell? ⟨p3, 0, none⟩ = some (.func (.func 76) #[.pointer (some ⟨B, 0, none⟩)] #[]) ∧ W.cell? ⟨B, 0, none⟩ = some (.pointer (some ⟨b, 0, none⟩))) (by kernel_rfl) ?_
    obtain ⟨w0, hw0⟩ : ∃ W, W = w00.drew := ⟨_, rfl⟩
    rw [← hw0]
    have B0 : Hid (Below w00.heap.size w00 w0) := by show Below _ _ _; rw [hw0]; exact (Below.refl _ _).drew
    clear hw0
    have Q0 := Lib.hid ((B0.out.block _ (lt_of_heap O0.out)).trans O0.out)
    have V0 := Lib.hid (V00.out.below B0.out)
    have P0 := Lib.hid ((IPost.of_below H.out B00.out).below B0.out)
    have L0 : Hid (p3 < w0.heap.size) := Nat.lt_of_lt_of_le QR.out.2.2.2.2 B0.out.size
    have hS := V0.out.sw
    unfold SW at hS
    refine takeD (some 7) (i := 0) (v := ?_) rfl rfl (by kernel_rfl) (by kernel_rfl) (by kernel_rfl) (fun _ _ _ h => h) (Or.inl ⟨by rfl, ?_⟩) hS ?_
    rotate_left
    · (intro W hW; (try dsimp only at hW); go_simp; with_reducible rfl)
    simp only [Act.put, List.setIfInBounds_toArray, List.set_cons_zero, List.set_cons_succ]
    refine takeD (some 8) (i := 1) (v := ?_) rfl rfl (by kernel_rfl) (by kernel_rfl) (by kernel_rfl) (fun _ _ _ h => h) (Or.inl ⟨by rfl, ?_⟩) hS ?_
    rotate_left
    · (intro W hW; (try dsimp only at hW); go_simp; with_reducible rfl)
    simp only [Act.put, List.setIfInBounds_toArray, List.set_cons_zero, List.set_cons_succ]
    refine takeD (some 9) (i := 2) (v := ?_) rfl rfl (by kernel_rfl) (by kernel_rfl) (by kernel_rfl) (fun _ _ _ h => h) (Or.inl ⟨by rfl, ?_⟩) hS ?_
    rotate_left
    · (intro W hW; (try dsimp only at hW); go_simp; with_reducible rfl)
    simp only [Act.put, List.setIfInBounds_toArray, List.set_cons_zero, List.set_cons_succ]
    refine takeD (some 10) (i := 3) (v := ?_) rfl rfl (by kernel_rfl) (by kernel_rfl) (by kernel_rfl) (fun _ _ _ h => h) (Or.inl ⟨by rfl, ?_⟩) hS ?_
    rotate_left
    · (intro W hW; (try dsimp only at hW); go_simp; with_reducible rfl)
    simp only [Act.put, List.setIfInBounds_toArray, List.set_cons_zero, List.set_cons_succ]
    refine takeD (some 12) (i := 5) (v := ?_) rfl rfl (by kernel_rfl) (by kernel_rfl) (by kernel_rfl) (fun _ _ _ h => h) (Or.inl ⟨by rfl, ?_⟩) hS ?_
    rotate_left
    · (intro W hW; (try dsimp only at hW); go_simp; with_reducible rfl)
    simp only [Act.put, List.setIfInBounds_toArray, List.set_cons_zero, List.set_cons_succ]
    refine takeD (some 14) (i := 7) (v := ?_) rfl rfl (by kernel_rfl) (by kernel_rfl) (by kernel_rfl) (fun _ _ _ h => h) (Or.inl ⟨by rfl, ?_⟩) hS ?_
    rotate_left
    · (intro W hW; (try dsimp only at hW); go_simp; with_reducible rfl)
    simp only [Act.put, List.setIfInBounds_toArray, List.set_cons_zero, List.set_cons_succ]
    refine takeD (some 16) (i := 9) (v := ?_) rfl rfl (by kernel_rfl) (by kernel_rfl) (by kernel_rfl) (fun _ _ _ h => h) (Or.inl ⟨by rfl, ?_⟩) hS ?_
    rotate_left
    · (intro W hW; (try dsimp only at hW); go_simp; with_reducible rfl)
    simp only [Act.put, List.setIfInBounds_toArray, List.set_cons_zero, List.set_cons_succ]
    refine takeD (some 18) (i := 11) (v := ?_) rfl rfl (by kernel_rfl) (by kernel_rfl) (by kernel_rfl) (fun _ _ _ h => h) (Or.inl ⟨by rfl, ?_⟩) hS ?_
    rotate_left
    · (intro W hW; (try dsimp only at hW); go_simp; with_reducible rfl)
    simp only [Act.put, List.setIfInBounds_toArray, List.set_cons_zero, List.set_cons_succ]
    refine takeD (some 20) (i := 13) (v := ?_) rfl rfl (by kernel_rfl) (by kernel_rfl) (by kernel_rfl) (fun _ _ _ h => h) (Or.inl ⟨by rfl, ?_⟩) hS ?_
    rotate_left
    · (intro W hW; (try dsimp only at hW); go_simp; with_reducible rfl)
    simp only [Act.put, List.setIfInBounds_toArray, List.set_cons_zero, List.set_cons_succ]
    refine takeD (some 22) (i := 15) (v := ?_) rfl rfl (by kernel_rfl) (by kernel_rfl) (by kernel_rfl) (fun _ _ _ h => h) (Or.inl ⟨by rfl, ?_⟩) hS ?_
    rotate_left
    · (intro W hW; (try dsimp only at hW); go_simp; with_reducible rfl)
    simp only [Act.put, List.setIfInBounds_toArray, List.set_cons_zero, List.set_cons_succ]
    refine wpAnyE_ready (rs := [4, 18]) (by kernel_rfl) (by simp) (AllReadyE.cons rfl (fun K hK => ?_) (AllReadyE.cons rfl (fun K hK => ?_) AllReadyE.nil))
    · go_simp
      refine (vnumM_any 9 _ V0.out HS.out E0.out).mono ?_
      rintro _ w1 ⟨rfl, hp⟩
      have V1 := Lib.hid (V0.out.post hp)
      have P1 := Lib.hid (P0.out.trans hp)
      have Q1 := Lib.hid (hp.heap Q0.out QR.out.1)
      have L1 : Hid (p3 < w1.heap.size) := Nat.lt_of_lt_of_le L0.out hp.2.size
      clear hp
      refine hK.out _ _ V1.out.sw (fun _ => ?_)
      clear hK K
      refine wpAnyE_ready (rs := [6, 18]) (by kernel_rfl) (by simp) (AllReadyE.cons rfl (fun K hK => ?_) (AllReadyE.cons rfl (fun K hK => ?_) AllReadyE.nil))
      · go_simp
        refine (vnum_any V1.out HS.out E1.out).mono ?_
        rintro _ w2 ⟨rfl, hp⟩
        have V2 := Lib.hid (V1.out.post hp)
        have P2 := Lib.hid (P1.out.trans hp)
        have Q2 := Lib.hid (hp.heap Q1.out QR.out.1)
        have L2 : Hid (p3 < w2.heap.size) := Nat.lt_of_lt_of_le L1.out hp.2.size
        clear hp
        refine hK.out _ _ V2.out.sw (fun _ => ?_)
        clear hK K
        refine wpAnyE_ready (rs := [8, 18]) (by kernel_rfl) (by simp) (AllReadyE.cons rfl (fun K hK => ?_) (AllReadyE.cons rfl (fun K hK => ?_) AllReadyE.nil))
        · go_simp
          refine (vnum_any V2.out HS.out E2.out).mono ?_
          rintro _ w3 ⟨rfl, hp⟩
          have V3 := Lib.hid (V2.out.post hp)
          have P3 := Lib.hid (P2.out.trans hp)
          have Q3 := Lib.hid (hp.heap Q2.out QR.out.1)
          have L3 : Hid (p3 < w3.heap.size) := Nat.lt_of_lt_of_le L2.out hp.2.size
          clear hp
          refine hK.out _ _ V3.out.sw (fun _ => ?_)
          clear hK K
          refine wpAnyE_ready (rs := [10, 18]) (by kernel_rfl) (by simp) (AllReadyE.cons rfl (fun K hK => ?_) (AllReadyE.cons rfl (fun K hK => ?_) AllReadyE.nil))
          · go_simp
            refine (vnum_any V3.out HS.out E3.out).mono ?_
            rintro _ w4 ⟨rfl, hp⟩
            have V4 := Lib.hid (V3.out.post hp)
            have P4 := Lib.hid (P3.out.trans hp)
            have Q4 := Lib.hid (hp.heap Q3.out QR.out.1)
            have L4 : Hid (p3 < w4.heap.size) := Nat.lt_of_lt_of_le L3.out hp.2.size
            clear hp
            refine hK.out _ _ V4.out.sw (fun _ => ?_)
            clear hK K
            refine wpAnyE_ready (rs := [12, 18]) (by kernel_rfl) (by simp) (AllReadyE.cons rfl (fun K hK => ?_) (AllReadyE.cons rfl (fun K hK => ?_) AllReadyE.nil))
            · go_simp
              refine (vnum_any V4.out HS.out E4.out).mono ?_
              rintro _ w5 ⟨rfl, hp⟩
              have V5 := Lib.hid (V4.out.post hp)
              have P5 := Lib.hid (P4.out.trans hp)
              have Q5 := Lib.hid (hp.heap Q4.out QR.out.1)
              have L5 : Hid (p3 < w5.heap.size) := Nat.lt_of_lt_of_le L4.out hp.2.size
              clear hp
              refine hK.out _ _ V5.out.sw (fun _ => ?_)
              clear hK K
              refine wpAnyE_ready (rs := [14, 18]) (by kernel_rfl) (by simp) (AllReadyE.cons rfl (fun K hK => ?_) (AllReadyE.cons rfl (fun K hK => ?_) AllReadyE.nil))
              · go_simp
                refine (vnum_any V5.out HS.out E5.out).mono ?_
                rintro _ w6 ⟨rfl, hp⟩
                have V6 := Lib.hid (V5.out.post hp)
                have P6 := Lib.hid (P5.out.trans hp)
                have Q6 := Lib.hid (hp.heap Q5.out QR.out.1)
                have L6 : Hid (p3 < w6.heap.size) := Nat.lt_of_lt_of_le L5.out hp.2.size
                clear hp
                refine hK.out _ _ V6.out.sw (fun _ => ?_)
                clear hK K
                refine wpAnyE_ready (rs := [16, 18]) (by kernel_rfl) (by simp) (AllReadyE.cons rfl (fun K hK => ?_) (AllReadyE.cons rfl (fun K hK => ?_) AllReadyE.nil))
                · go_simp
                  refine (vnum_any V6.out HS.out E6.out).mono ?_
                  rintro _ w7 ⟨rfl, hp⟩
                  have V7 := Lib.hid (V6.out.post hp)
                  have P7 := Lib.hid (P6.out.trans hp)
                  have Q7 := Lib.hid (hp.heap Q6.out QR.out.1)
                  have L7 : Hid (p3 < w7.heap.size) := Nat.lt_of_lt_of_le L6.out hp.2.size
                  clear hp
                  refine hK.out _ _ V7.out.sw (fun _ => ?_)
                  clear hK K
                  have hS := V7.out.sw
                  unfold SW at hS
                  refine takeD (some 24) (i := 17) (v := ?_) rfl rfl (by kernel_rfl) (by kernel_rfl) (by kernel_rfl) (fun _ _ _ h => h) (Or.inl ⟨by rfl, ?_⟩) hS ?_
                  rotate_left
                  · (intro W hW; (try dsimp only at hW); go_simp; with_reducible rfl)
                  simp only [Act.put, List.setIfInBounds_toArray, List.set_cons_zero, List.set_cons_succ]
                  refine wpAnyE_ready (rs := [18]) (by kernel_rfl) (by simp) (AllReadyE.cons rfl (fun K hK => ?_) AllReadyE.nil)
                  go_simp
                  rw [← HZS.out]
                  have hb := bel1 w7 (.cells zs 35)
                  have V7 := Lib.hid (V7.out.below hb)
                  have P7 := Lib.hid (P7.out.below hb)
                  have RN : Hid (n ≤ w7.heap.size ∧ r < w7.heap.size ∧ p3 < w7.heap.size) := ⟨by have := lt_of_heap Q7.out; have := QR.out.1; omega, lt_of_heap Q7.out, L7.out⟩
                  have L7 : Hid (p3 < (w7.alloc (.cells zs 35)).heap.size) := Nat.lt_of_lt_of_le L7.out hb.size
                  have Q7 := Lib.hid ((hb.block _ (lt_of_heap Q7.out)).trans Q7.out)
                  have R := Lib.hid (heap_new_D w7 (.cells zs 35))
                  obtain ⟨wa, hwa⟩ : ∃ W, W = w7.alloc (.cells zs 35) := ⟨_, rfl⟩
                  rw [← hwa] at V7 P7 Q7 L7 R ⊢
                  obtain ⟨q, hq⟩ : ∃ q, q = w7.heap.size := ⟨_, rfl⟩
                  rw [← hq] at R RN ⊢
                  clear hwa hb hq
                  refine hK.out _ _ V7.out.sw (fun _ => ?_)
                  clear hK K
                  rw [← HC2.out]
                  have hbx := run_storeCells_all _ q _ _ cs R.out (by rw [HZ, HI]) H1
                  refine wpAnyE_ready (rs := [19]) (by kernel_rfl) (by simp) (AllReadyE.last rfl (by kernel_rfl) (fun K hK => ?_))
                  go_simp
                  refine hK.out _ _ ?_
                  clear hK K hbx
                  refine wpAnyE_done (by kernel_rfl) ?_ _
                  go_wp2
                  go_meet
                  have hg := setRow_grown wa q cs
                  have hp := P7.out.box R.out (by decide) (by have := RN.out.2.1; have := QR.out.2.1; omega) HQN.out HGE.out hg
                  exact ⟨q, rfl, V7.out.box hp.1 hg (by have := RN.out.2.2; have := QR.out.2.2.1; omega) (by have := RN.out.2.2; omega), hp, (hg.block _ (lt_of_heap Q7.out) (by intro e; injection e with e; have := RN.out.2.1; omega)).trans Q7.out, setRow_heap wa q _ cs _ _ R.out, ⟨RN.out.2.1, by have := RN.out.2.2; have := QR.out.2.2.1; omega, RN.out.2.2⟩⟩
                · go_simp
                  rw [← HZS.out]
                  have hb := bel1 w6 (.cells zs 35)
                  have V6 := Lib.hid (V6.out.below hb)
                  have P6 := Lib.hid (P6.out.below hb)
                  have RN : Hid (n ≤ w6.heap.size ∧ r < w6.heap.size ∧ p3 < w6.heap.size) := ⟨by have := lt_of_heap Q6.out; have := QR.out.1; omega, lt_of_heap Q6.out, L6.out⟩
                  have L6 : Hid (p3 < (w6.alloc (.cells zs 35)).heap.size) := Nat.lt_of_lt_of_le L6.out hb.size
                  have Q6 := Lib.hid ((hb.block _ (lt_of_heap Q6.out)).trans Q6.out)
                  have R := Lib.hid (heap_new_D w6 (.cells zs 35))
                  obtain ⟨wa, hwa⟩ : ∃ W, W = w6.alloc (.cells zs 35) := ⟨_, rfl⟩
                  rw [← hwa] at V6 P6 Q6 L6 R ⊢
                  obtain ⟨q, hq⟩ : ∃ q, q = w6.heap.size := ⟨_, rfl⟩
                  rw [← hq] at R RN ⊢
                  clear hwa hb hq
                  refine hK.out _ _ V6.out.sw (fun _ => ?_)
                  clear hK K
                  refine wpAnyE_ready (rs := [16]) (by kernel_rfl) (by simp) (AllReadyE.cons rfl (fun K hK => ?_) AllReadyE.nil)
                  go_simp
                  refine (vnum_any V6.out HS.out E6.out).mono ?_
                  rintro _ w7 ⟨rfl, hp⟩
                  have V7 := Lib.hid (V6.out.post hp)
                  have P7 := Lib.hid (P6.out.trans hp)
                  have Q7 := Lib.hid (hp.heap Q6.out QR.out.1)
                  have L7 : Hid (p3 < w7.heap.size) := Nat.lt_of_lt_of_le L6.out hp.2.size
                  have R := Lib.hid (hp.heap R.out RN.out.1)
                  clear hp
                  refine hK.out _ _ V7.out.sw (fun _ => ?_)
                  clear hK K
                  have hS := V7.out.sw
                  unfold SW at hS
                  refine takeD (some 24) (i := 17) (v := ?_) rfl rfl (by kernel_rfl) (by kernel_rfl) (by kernel_rfl) (fun _ _ _ h => h) (Or.inl ⟨by rfl, ?_⟩) hS ?_
                  rotate_left
                  · (intro W hW; (try dsimp only at hW); go_simp; with_reducible rfl)
                  simp only [Act.put, List.setIfInBounds_toArray, List.set_cons_zero, List.set_cons_succ]
                  rw [← HC2.out]
                  have hbx := run_storeCells_all _ q _ _ cs R.out (by rw [HZ, HI]) H1
                  refine wpAnyE_ready (rs := [19]) (by kernel_rfl) (by simp) (AllReadyE.last rfl (by kernel_rfl) (fun K hK => ?_))
                  go_simp
                  refine hK.out _ _ ?_
                  clear hK K hbx
                  refine wpAnyE_done (by kernel_rfl) ?_ _
                  go_wp2
                  go_meet
                  have hg := setRow_grown w7 q cs
                  have hp := P7.out.box R.out (by decide) (by have := RN.out.2.1; have := QR.out.2.1; omega) HQN.out HGE.out hg
                  exact ⟨q, rfl, V7.out.box hp.1 hg (by have := RN.out.2.2; have := QR.out.2.2.1; omega) (by have := RN.out.2.2; omega), hp, (hg.block _ (lt_of_heap Q7.out) (by intro e; injection e with e; have := RN.out.2.1; omega)).trans Q7.out, setRow_heap w7 q _ cs _ _ R.out, ⟨RN.out.2.1, by have := RN.out.2.2; have := QR.out.2.2.1; omega, RN.out.2.2⟩⟩
              · go_simp
                rw [← HZS.out]
                have hb := bel1 w5 (.cells zs 35)
                have V5 := Lib.hid (V5.out.below hb)
                have P5 := Lib.hid (P5.out.below hb)
                have RN : Hid (n ≤ w5.heap.size ∧ r < w5.heap.size ∧ p3 < w5.heap.size) := ⟨by have := lt_of_heap Q5.out; have := QR.out.1; omega, lt_of_heap Q5.out, L5.out⟩
                have L5 : Hid (p3 < (w5.alloc (.cells zs 35)).heap.size) := Nat.lt_of_lt_of_le L5.out hb.size
                have Q5 := Lib.hid ((hb.block _ (lt_of_heap Q5.out)).trans Q5.out)
                have R := Lib.hid (heap_new_D w5 (.cells zs 35))
                obtain ⟨wa, hwa⟩ : ∃ W, W = w5.alloc (.cells zs 35) := ⟨_, rfl⟩
                rw [← hwa] at V5 P5 Q5 L5 R ⊢
                obtain ⟨q, hq⟩ : ∃ q, q = w5.heap.size := ⟨_, rfl⟩
                rw [← hq] at R RN ⊢
                clear hwa hb hq
                refine hK.out _ _ V5.out.sw (fun _ => ?_)
                clear hK K
                refine wpAnyE_ready (rs := [14]) (by kernel_rfl) (by simp) (AllReadyE.cons rfl (fun K hK => ?_) AllReadyE.nil)
                go_simp
                refine (vnum_any V5.out HS.out E5.out).mono ?_
                rintro _ w6 ⟨rfl, hp⟩
                have V6 := Lib.hid (V5.out.post hp)
                have P6 := Lib.hid (P5.out.trans hp)
                have Q6 := Lib.hid (hp.heap Q5.out QR.out.1)
                have L6 : Hid (p3 < w6.heap.size) := Nat.lt_of_lt_of_le L5.out hp.2.size
                have R := Lib.hid (hp.heap R.out RN.out.1)
                clear hp
                refine hK.out _ _ V6.out.sw (fun _ => ?_)
                clear hK K
                refine wpAnyE_ready (rs := [16]) (by kernel_rfl) (by simp) (AllReadyE.cons rfl (fun K hK => ?_) AllReadyE.nil)
                go_simp
                refine (vnum_any V6.out HS.out E6.out).mono ?_
                rintro _ w7 ⟨rfl, hp⟩
                have V7 := Lib.hid (V6.out.post hp)
                have P7 := Lib.hid (P6.out.trans hp)
                have Q7 := Lib.hid (hp.heap Q6.out QR.out.1)
                have L7 : Hid (p3 < w7.heap.size) := Nat.lt_of_lt_of_le L6.out hp.2.size
                have R := Lib.hid (hp.heap R.out RN.out.1)
                clear hp
                refine hK.out _ _ V7.out.sw (fun _ => ?_)
                clear hK K
                have hS := V7.out.sw
                unfold SW at hS
                refine takeD (some 24) (i := 17) (v := ?_) rfl rfl (by kernel_rfl) (by kernel_rfl) (by kernel_rfl) (fun _ _ _ h => h) (Or.inl ⟨by rfl, ?_⟩) hS ?_
                rotate_left
                · (intro W hW; (try dsimp only at hW); go_simp; with_reducible rfl)
                simp only [Act.put, List.setIfInBounds_toArray, List.set_cons_zero, List.set_cons_succ]
                rw [← HC2.out]
                have hbx := run_storeCells_all _ q _ _ cs R.out (by rw [HZ, HI]) H1
                refine wpAnyE_ready (rs := [19]) (by kernel_rfl) (by simp) (AllReadyE.last rfl (by kernel_rfl) (fun K hK => ?_))
                go_simp
                refine hK.out _ _ ?_
                clear hK K hbx
                refine wpAnyE_done (by kernel_rfl) ?_ _
                go_wp2
                go_meet
                have hg := setRow_grown w7 q cs
                have hp := P7.out.box R.out (by decide) (by have := RN.out.2.1; have := QR.out.2.1; omega) HQN.out HGE.out hg
                exact ⟨q, rfl, V7.out.box hp.1 hg (by have := RN.out.2.2; have := QR.out.2.2.1; omega) (by have := RN.out.2.2; omega), hp, (hg.block _ (lt_of_heap Q7.out) (by intro e; injection e with e; have := RN.out.2.1; omega)).trans Q7.out, setRow_heap w7 q _ cs _ _ R.out, ⟨RN.out.2.1, by have := RN.out.2.2; have := QR.out.2.2.1; omega, RN.out.2.2⟩⟩
            · go_simp
              rw [← HZS.out]
              have hb := bel1 w4 (.cells zs 35)
              have V4 := Lib.hid (V4.out.below hb)
              have P4 := Lib.hid (P4.out.below hb)
              have RN : Hid (n ≤ w4.heap.size ∧ r < w4.heap.size ∧ p3 < w4.heap.size) := ⟨by have := lt_of_heap Q4.out; have := QR.out.1; omega, lt_of_heap Q4.out, L4.out⟩
              have L4 : Hid (p3 < (w4.alloc (.cells zs 35)).heap.size) := Nat.lt_of_lt_of_le L4.out hb.size
              have Q4 := Lib.hid ((hb.block _ (lt_of_heap Q4.out)).trans Q4.out)
              have R := Lib.hid (heap_new_D w4 (.cells zs 35))
              obtain ⟨wa, hwa⟩ : ∃ W, W = w4.alloc (.cells zs 35) := ⟨_, rfl⟩
              rw [← hwa] at V4 P4 Q4 L4 R ⊢
              obtain ⟨q, hq⟩ : ∃ q, q = w4.heap.size := ⟨_, rfl⟩
              rw [← hq] at R RN ⊢
              clear hwa hb hq
              refine hK.out _ _ V4.out.sw (fun _ => ?_)
              clear hK K
              refine wpAnyE_ready (rs := [12]) (by kernel_rfl) (by simp) (AllReadyE.cons rfl (fun K hK => ?_) AllReadyE.nil)
              go_simp
              refine (vnum_any V4.out HS.out E4.out).mono ?_
              rintro _ w5 ⟨rfl, hp⟩
              have V5 := Lib.hid (V4.out.post hp)
              have P5 := Lib.hid (P4.out.trans hp)
              have Q5 := Lib.hid (hp.heap Q4.out QR.out.1)
              have L5 : Hid (p3 < w5.heap.size) := Nat.lt_of_lt_of_le L4.out hp.2.size
              have R := Lib.hid (hp.heap R.out RN.out.1)
              clear hp
              refine hK.out _ _ V5.out.sw (fun _ => ?_)
              clear hK K
              refine wpAnyE_ready (rs := [14]) (by kernel_rfl) (by simp) (AllReadyE.cons rfl (fun K hK => ?_) AllReadyE.nil)
              go_simp
              refine (vnum_any V5.out HS.out E5.out).mono ?_
              rintro _ w6 ⟨rfl, hp⟩
              have V6 := Lib.hid (V5.out.post hp)
              have P6 := Lib.hid (P5.out.trans hp)
              have Q6 := Lib.hid (hp.heap Q5.out QR.out.1)
              have L6 : Hid (p3 < w6.heap.size) := Nat.lt_of_lt_of_le L5.out hp.2.size
              have R := Lib.hid (hp.heap R.out RN.out.1)
              clear hp
              refine hK.out _ _ V6.out.sw (fun _ => ?_)
              clear hK K
              refine wpAnyE_ready (rs := [16]) (by kernel_rfl) (by simp) (AllReadyE.cons rfl (fun K hK => ?_) AllReadyE.nil)
              go_simp
              refine (vnum_any V6.out HS.out E6.out).mono ?_
              rintro _ w7 ⟨rfl, hp⟩
              have V7 := Lib.hid (V6.out.post hp)
              have P7 := Lib.hid (P6.out.trans hp)
              have Q7 := Lib.hid (hp.heap Q6.out QR.out.1)
              have L7 : Hid (p3 < w7.heap.size) := Nat.lt_of_lt_of_le L6.out hp.2.size
              have R := Lib.hid (hp.heap R.out RN.out.1)
              clear hp
              refine hK.out _ _ V7.out.sw (fun _ => ?_)
              clear hK K
              have hS := V7.out.sw
              unfold SW at hS
              refine takeD (some 24) (i := 17) (v := ?_) rfl rfl (by kernel_rfl) (by kernel_rfl) (by kernel_rfl) (fun _ _ _ h => h) (Or.inl ⟨by rfl, ?_⟩) hS ?_
              rotate_left
              · (intro W hW; (try dsimp only at hW); go_simp; with_reducible rfl)
              simp only [Act.put, List.setIfInBounds_toArray, List.set_cons_zero, List.set_cons_succ]
              rw [← HC2.out]
              have hbx := run_storeCells_all _ q _ _ cs R.out (by rw [HZ, HI]) H1
              refine wpAnyE_ready (rs := [19]) (by kernel_rfl) (by simp) (AllReadyE.last rfl (by kernel_rfl) (fun K hK => ?_))
              go_simp
              refine hK.out _ _ ?_
              clear hK K hbx
              refine wpAnyE_done (by kernel_rfl) ?_ _
              go_wp2
              go_meet
              have hg := setRow_grown w7 q cs
              have hp := P7.out.box R.out (by decide) (by have := RN.out.2.1; have := QR.out.2.1; omega) HQN.out HGE.out hg
              exact ⟨q, rfl, V7.out.box hp.1 hg (by have := RN.out.2.2; have := QR.out.2.2.1; omega) (by have := RN.out.2.2; omega), hp, (hg.block _ (lt_of_heap Q7.out) (by intro e; injection e with e; have := RN.out.2.1; omega)).trans Q7.out, setRow_heap w7 q _ cs _ _ R.out, ⟨RN.out.2.1, by have := RN.out.2.2; have := QR.out.2.2.1; omega, RN.out.2.2⟩⟩
          · go_simp
            rw [← HZS.out]
            have hb := bel1 w3 (.cells zs 35)
            have V3 := Lib.hid (V3.out.below hb)
            have P3 := Lib.hid (P3.out.below hb)
            have RN : Hid (n ≤ w3.heap.size ∧ r < w3.heap.size ∧ p3 < w3.heap.size) := ⟨by have := lt_of_heap Q3.out; have := QR.out.1; omega, lt_of_heap Q3.out, L3.out⟩
            have L3 : Hid (p3 < (w3.alloc (.cells zs 35)).heap.size) := Nat.lt_of_lt_of_le L3.out hb.size
            have Q3 := Lib.hid ((hb.block _ (lt_of_heap Q3.out)).trans Q3.out)
            have R := Lib.hid (heap_new_D w3 (.cells zs 35))
            obtain ⟨wa, hwa⟩ : ∃ W, W = w3.alloc (.cells zs 35) := ⟨_, rfl⟩
            rw [← hwa] at V3 P3 Q3 L3 R ⊢
            obtain ⟨q, hq⟩ : ∃ q, q = w3.heap.size := ⟨_, rfl⟩
            rw [← hq] at R RN ⊢
            clear hwa hb hq
            refine hK.out _ _ V3.out.sw (fun _ => ?_)
            clear hK K
            refine wpAnyE_ready (rs := [10]) (by kernel_rfl) (by simp) (AllReadyE.cons rfl (fun K hK => ?_) AllReadyE.nil)
            go_simp
            refine (vnum_any V3.out HS.out E3.out).mono ?_
            rintro _ w4 ⟨rfl, hp⟩
            have V4 := Lib.hid (V3.out.post hp)
            have P4 := Lib.hid (P3.out.trans hp)
            have Q4 := Lib.hid (hp.heap Q3.out QR.out.1)
            have L4 : Hid (p3 < w4.heap.size) := Nat.lt_of_lt_of_le L3.out hp.2.size
            have R := Lib.hid (hp.heap R.out RN.out.1)
            clear hp
            refine hK.out _ _ V4.out.sw (fun _ => ?_)
            clear hK K
            refine wpAnyE_ready (rs := [12]) (by kernel_rfl) (by simp) (AllReadyE.cons rfl (fun K hK => ?_) AllReadyE.nil)
            go_simp
            refine (vnum_any V4.out HS.out E4.out).mono ?_
            rintro _ w5 ⟨rfl, hp⟩
            have V5 := Lib.hid (V4.out.post hp)
            have P5 := Lib.hid (P4.out.trans hp)
            have Q5 := Lib.hid (hp.heap Q4.out QR.out.1)
            have L5 : Hid (p3 < w5.heap.size) := Nat.lt_of_lt_of_le L4.out hp.2.size
            have R := Lib.hid (hp.heap R.out RN.out.1)
            clear hp
            refine hK.out _ _ V5.out.sw (fun _ => ?_)
            clear hK K
            refine wpAnyE_ready (rs := [14]) (by kernel_rfl) (by simp) (AllReadyE.cons rfl (fun K hK => ?_) AllReadyE.nil)
            go_simp
            refine (vnum_any V5.out HS.out E5.out).mono ?_
            rintro _ w6 ⟨rfl, hp⟩
            have V6 := Lib.hid (V5.out.post hp)
            have P6 := Lib.hid (P5.out.trans hp)
            have Q6 := Lib.hid (hp.heap Q5.out QR.out.1)
            have L6 : Hid (p3 < w6.heap.size) := Nat.lt_of_lt_of_le L5.out hp.2.size
            have R := Lib.hid (hp.heap R.out RN.out.1)
            clear hp
            refine hK.out _ _ V6.out.sw (fun _ => ?_)
            clear hK K
            refine wpAnyE_ready (rs := [16]) (by kernel_rfl) (by simp) (AllReadyE.cons rfl (fun K hK => ?_) AllReadyE.nil)
            go_simp
            refine (vnum_any V6.out HS.out E6.out).mono ?_
            rintro _ w7 ⟨rfl, hp⟩
            have V7 := Lib.hid (V6.out.post hp)
            have P7 := Lib.hid (P6.out.trans hp)
            have Q7 := Lib.hid (hp.heap Q6.out QR.out.1)
            have L7 : Hid (p3 < w7.heap.size) := Nat.lt_of_lt_of_le L6.out hp.2.size
            have R := Lib.hid (hp.heap R.out RN.out.1)
            clear hp
            refine hK.out _ _ V7.out.sw (fun _ => ?_)
            clear hK K
            have hS := V7.out.sw
            unfold SW at hS
            refine takeD (some 24) (i := 17) (v := ?_) rfl rfl (by kernel_rfl) (by kernel_rfl) (by kernel_rfl) (fun _ _ _ h => h) (Or.inl ⟨by rfl, ?_⟩) hS ?_
            rotate_left
            · (intro W hW; (try dsimp only at hW); go_simp; with_reducible rfl)
            simp only [Act.put, List.setIfInBounds_toArray, List.set_cons_zero, List.set_cons_succ]
            rw [← HC2.out]
            have hbx := run_storeCells_all _ q _ _ cs R.out (by rw [HZ, HI]) H1
            refine wpAnyE_ready (rs := [19]) (by kernel_rfl) (by simp) (AllReadyE.last rfl (by kernel_rfl) (fun K hK => ?_))
            go_simp
            refine hK.out _ _ ?_
            clear hK K hbx
            refine wpAnyE_done (by kernel_rfl) ?_ _
            go_wp2
            go_meet
            have hg := setRow_grown w7 q cs
            have hp := P7.out.box R.out (by decide) (by have := RN.out.2.1; have := QR.out.2.1; omega) HQN.out HGE.out hg
            exact ⟨q, rfl, V7.out.box hp.1 hg (by have := RN.out.2.2; have := QR.out.2.2.1; omega) (by have := RN.out.2.2; omega), hp, (hg.block _ (lt_of_heap Q7.out) (by intro e; injection e with e; have := RN.out.2.1; omega)).trans Q7.out, setRow_heap w7 q _ cs _ _ R.out, ⟨RN.out.2.1, by have := RN.out.2.2; have := QR.out.2.2.1; omega, RN.out.2.2⟩⟩
        · go_simp
          rw [← HZS.out]
          have hb := bel1 w2 (.cells zs 35)
          have V2 := Lib.hid (V2.out.below hb)
          have P2 := Lib.hid (P2.out.below hb)
          have RN : Hid (n ≤ w2.heap.size ∧ r < w2.heap.size ∧ p3 < w2.heap.size) := ⟨by have := lt_of_heap Q2.out; have := QR.out.1; omega, lt_of_heap Q2.out, L2.out⟩
          have L2 : Hid (p3 < (w2.alloc (.cells zs 35)).heap.size) := Nat.lt_of_lt_of_le L2.out hb.size
          have Q2 := Lib.hid ((hb.block _ (lt_of_heap Q2.out)).trans Q2.out)
          have R := Lib.hid (heap_new_D w2 (.cells zs 35))
          obtain ⟨wa, hwa⟩ : ∃ W, W = w2.alloc (.cells zs 35) := ⟨_, rfl⟩
          rw [← hwa] at V2 P2 Q2 L2 R ⊢
          obtain ⟨q, hq⟩ : ∃ q, q = w2.heap.size := ⟨_, rfl⟩
          rw [← hq] at R RN ⊢
          clear hwa hb hq
          refine hK.out _ _ V2.out.sw (fun _ => ?_)
          clear hK K
          refine wpAnyE_ready (rs := [8]) (by kernel_rfl) (by simp) (AllReadyE.cons rfl (fun K hK => ?_) AllReadyE.nil)
          go_simp
          refine (vnum_any V2.out HS.out E2.out).mono ?_
          rintro _ w3 ⟨rfl, hp⟩
          have V3 := Lib.hid (V2.out.post hp)
          have P3 := Lib.hid (P2.out.trans hp)
          have Q3 := Lib.hid (hp.heap Q2.out QR.out.1)
          have L3 : Hid (p3 < w3.heap.size) := Nat.lt_of_lt_of_le L2.out hp.2.size
          have R := Lib.hid (hp.heap R.out RN.out.1)
          clear hp
          refine hK.out _ _ V3.out.sw (fun _ => ?_)
          clear hK K
          refine wpAnyE_ready (rs := [10]) (by kernel_rfl) (by simp) (AllReadyE.cons rfl (fun K hK => ?_) AllReadyE.nil)
          go_simp
          refine (vnum_any V3.out HS.out E3.out).mono ?_
          rintro _ w4 ⟨rfl, hp⟩
          have V4 := Lib.hid (V3.out.post hp)
          have P4 := Lib.hid (P3.out.trans hp)
          have Q4 := Lib.hid (hp.heap Q3.out QR.out.1)
          have L4 : Hid (p3 < w4.heap.size) := Nat.lt_of_lt_of_le L3.out hp.2.size
          have R := Lib.hid (hp.heap R.out RN.out.1)
          clear hp
          refine hK.out _ _ V4.out.sw (fun _ => ?_)
          clear hK K
          refine wpAnyE_ready (rs := [12]) (by kernel_rfl) (by simp) (AllReadyE.cons rfl (fun K hK => ?_) AllReadyE.nil)
          go_simp
          refine (vnum_any V4.out HS.out E4.out).mono ?_
          rintro _ w5 ⟨rfl, hp⟩
          have V5 := Lib.hid (V4.out.post hp)
          have P5 := Lib.hid (P4.out.trans hp)
          have Q5 := Lib.hid (hp.heap Q4.out QR.out.1)
          have L5 : Hid (p3 < w5.heap.size) := Nat.lt_of_lt_of_le L4.out hp.2.size
          have R := Lib.hid (hp.heap R.out RN.out.1)
          clear hp
          refine hK.out _ _ V5.out.sw (fun _ => ?_)
          clear hK K
          refine wpAnyE_ready (rs := [14]) (by kernel_rfl) (by simp) (AllReadyE.cons rfl (fun K hK => ?_) AllReadyE.nil)
          go_simp
          refine (vnum_any V5.out HS.out E5.out).mono ?_
          rintro _ w6 ⟨rfl, hp⟩
          have V6 := Lib.hid (V5.out.post hp)
          have P6 := Lib.hid (P5.out.trans hp)
          have Q6 := Lib.hid (hp.heap Q5.out QR.out.1)
          have L6 : Hid (p3 < w6.heap.size) := Nat.lt_of_lt_of_le L5.out hp.2.size
          have R := Lib.hid (hp.heap R.out RN.out.1)
          clear hp
          refine hK.out _ _ V6.out.sw (fun _ => ?_)
          clear hK K
          refine wpAnyE_ready (rs := [16]) (by kernel_rfl) (by simp) (AllReadyE.cons rfl (fun K hK => ?_) AllReadyE.nil)
          go_simp
          refine (vnum_any V6.out HS.out E6.out).mono ?_
          rintro _ w7 ⟨rfl, hp⟩
          have V7 := Lib.hid (V6.out.post hp)
          have P7 := Lib.hid (P6.out.trans hp)
          have Q7 := Lib.hid (hp.heap Q6.out QR.out.1)
          have L7 : Hid (p3 < w7.heap.size) := Nat.lt_of_lt_of_le L6.out hp.2.size
          have R := Lib.hid (hp.heap R.out RN.out.1)
          clear hp
          refine hK.out _ _ V7.out.sw (fun _ => ?_)
          clear hK K
          have hS := V7.out.sw
          unfold SW at hS
          refine takeD (some 24) (i := 17) (v := ?_) rfl rfl (by kernel_rfl) (by kernel_rfl) (by kernel_rfl) (fun _ _ _ h => h) (Or.inl ⟨by rfl, ?_⟩) hS ?_
          rotate_left
          · (intro W hW; (try dsimp only at hW); go_simp; with_reducible rfl)
          simp only [Act.put, List.setIfInBounds_toArray, List.set_cons_zero, List.set_cons_succ]
          rw [← HC2.out]
          have hbx := run_storeCells_all _ q _ _ cs R.out (by rw [HZ, HI]) H1
          refine wpAnyE_ready (rs := [19]) (by kernel_rfl) (by simp) (AllReadyE.last rfl (by kernel_rfl) (fun K hK => ?_))
          go_simp
          refine hK.out _ _ ?_
          clear hK K hbx
          refine wpAnyE_done (by kernel_rfl) ?_ _
          go_wp2
          go_meet
          have hg := setRow_grown w7 q cs
          have hp := P7.out.box R.out (by decide) (by have := RN.out.2.1; have := QR.out.2.1; omega) HQN.out HGE.out hg
          exact ⟨q, rfl, V7.out.box hp.1 hg (by have := RN.out.2.2; have := QR.out.2.2.1; omega) (by have := RN.out.2.2; omega), hp, (hg.block _ (lt_of_heap Q7.out) (by intro e; injection e with e; have := RN.out.2.1; omega)).trans Q7.out, setRow_heap w7 q _ cs _ _ R.out, ⟨RN.out.2.1, by have := RN.out.2.2; have := QR.out.2.2.1; omega, RN.out.2.2⟩⟩
      · go_simp
        rw [← HZS.out]
        have hb := bel1 w1 (.cells zs 35)
        have V1 := Lib.hid (V1.out.below hb)
        have P1 := Lib.hid (P1.out.below hb)
        have RN : Hid (n ≤ w1.heap.size ∧ r < w1.heap.size ∧ p3 < w1.heap.size) := ⟨by have := lt_of_heap Q1.out; have := QR.out.1; omega, lt_of_heap Q1.out, L1.out⟩
        have L1 : Hid (p3 < (w1.alloc (.cells zs 35)).heap.size) := Nat.lt_of_lt_of_le L1.out hb.size
        have Q1 := Lib.hid ((hb.block _ (lt_of_heap Q1.out)).trans Q1.out)
        have R := Lib.hid (heap_new_D w1 (.cells zs 35))
        obtain ⟨wa, hwa⟩ : ∃ W, W = w1.alloc (.cells zs 35) := ⟨_, rfl⟩
        rw [← hwa] at V1 P1 Q1 L1 R ⊢
        obtain ⟨q, hq⟩ : ∃ q, q = w1.heap.size := ⟨_, rfl⟩
        rw [← hq] at R RN ⊢
        clear hwa hb hq
        refine hK.out _ _ V1.out.sw (fun _ => ?_)
        clear hK K
        refine wpAnyE_ready (rs := [6]) (by kernel_rfl) (by simp) (AllReadyE.cons rfl (fun K hK => ?_) AllReadyE.nil)
        go_simp
        refine (vnum_any V1.out HS.out E1.out).mono ?_
        rintro _ w2 ⟨rfl, hp⟩
        have V2 := Lib.hid (V1.out.post hp)
        have P2 := Lib.hid (P1.out.trans hp)
        have Q2 := Lib.hid (hp.heap Q1.out QR.out.1)
        have L2 : Hid (p3 < w2.heap.size) := Nat.lt_of_lt_of_le L1.out hp.2.size
        have R := Lib.hid (hp.heap R.out RN.out.1)
        clear hp
        refine hK.out _ _ V2.out.sw (fun _ => ?_)
        clear hK K
        refine wpAnyE_ready (rs := [8]) (by kernel_rfl) (by simp) (AllReadyE.cons rfl (fun K hK => ?_) AllReadyE.nil)
        go_simp
        refine (vnum_any V2.out HS.out E2.out).mono ?_
        rintro _ w3 ⟨rfl, hp⟩
        have V3 := Lib.hid (V2.out.post hp)
        have P3 := Lib.hid (P2.out.trans hp)
        have Q3 := Lib.hid (hp.heap Q2.out QR.out.1)
        have L3 : Hid (p3 < w3.heap.size) := Nat.lt_of_lt_of_le L2.out hp.2.size
        have R := Lib.hid (hp.heap R.out RN.out.1)
        clear hp
        refine hK.out _ _ V3.out.sw (fun _ => ?_)
        clear hK K
        refine wpAnyE_ready (rs := [10]) (by kernel_rfl) (by simp) (AllReadyE.cons rfl (fun K hK => ?_) AllReadyE.nil)
        go_simp
        refine (vnum_any V3.out HS.out E3.out).mono ?_
        rintro _ w4 ⟨rfl, hp⟩
        have V4 := Lib.hid (V3.out.post hp)
        have P4 := Lib.hid (P3.out.trans hp)
        have Q4 := Lib.hid (hp.heap Q3.out QR.out.1)
        have L4 : Hid (p3 < w4.heap.size) := Nat.lt_of_lt_of_le L3.out hp.2.size
        have R := Lib.hid (hp.heap R.out RN.out.1)
        clear hp
        refine hK.out _ _ V4.out.sw (fun _ => ?_)
        clear hK K
        refine wpAnyE_ready (rs := [12]) (by kernel_rfl) (by simp) (AllReadyE.cons rfl (fun K hK => ?_) AllReadyE.nil)
        go_simp
        refine (vnum_any V4.out HS.out E4.out).mono ?_
        rintro _ w5 ⟨rfl, hp⟩
        have V5 := Lib.hid (V4.out.post hp)
        have P5 := Lib.hid (P4.out.trans hp)
        have Q5 := Lib.hid (hp.heap Q4.out QR.out.1)
        have L5 : Hid (p3 < w5.heap.size) := Nat.lt_of_lt_of_le L4.out hp.2.size
        have R := Lib.hid (hp.heap R.out RN.out.1)
        clear hp
        refine hK.out _ _ V5.out.sw (fun _ => ?_)
        clear hK K
        refine wpAnyE_ready (rs := [14]) (by kernel_rfl) (by simp) (AllReadyE.cons rfl (fun K hK => ?_) AllReadyE.nil)
        go_simp
        refine (vnum_any V5.out HS.out E5.out).mono ?_
        rintro _ w6 ⟨rfl, hp⟩
        have V6 := Lib.hid (V5.out.post hp)
        have P6 := Lib.hid (P5.out.trans hp)
        have Q6 := Lib.hid (hp.heap Q5.out QR.out.1)
        have L6 : Hid (p3 < w6.heap.size) := Nat.lt_of_lt_of_le L5.out hp.2.size
        have R := Lib.hid (hp.heap R.out RN.out.1)
        clear hp
        refine hK.out _ _ V6.out.sw (fun _ => ?_)
        clear hK K
        refine wpAnyE_ready (rs := [16]) (by kernel_rfl) (by simp) (AllReadyE.cons rfl (fun K hK => ?_) AllReadyE.nil)
        go_simp
        refine (vnum_any V6.out HS.out E6.out).mono ?_
        rintro _ w7 ⟨rfl, hp⟩
        have V7 := Lib.hid (V6.out.post hp)
        have P7 := Lib.hid (P6.out.trans hp)
        have Q7 := Lib.hid (hp.heap Q6.out QR.out.1)
        have L7 : Hid (p3 < w7.heap.size) := Nat.lt_of_lt_of_le L6.out hp.2.size
        have R := Lib.hid (hp.heap R.out RN.out.1)
        clear hp
        refine hK.out _ _ V7.out.sw (fun _ => ?_)
        clear hK K
        have hS := V7.out.sw
        unfold SW at hS
        refine takeD (some 24) (i := 17) (v := ?_) rfl rfl (by kernel_rfl) (by kernel_rfl) (by kernel_rfl) (fun _ _ _ h => h) (Or.inl ⟨by rfl, ?_⟩) hS ?_
        rotate_left
        · (intro W hW; (try dsimp only at hW); go_simp; with_reducible rfl)
        simp only [Act.put, List.setIfInBounds_toArray, List.set_cons_zero, List.set_cons_succ]
        rw [← HC2.out]
        have hbx := run_storeCells_all _ q _ _ cs R.out (by rw [HZ, HI]) H1
        refine wpAnyE_ready (rs := [19]) (by kernel_rfl) (by simp) (AllReadyE.last rfl (by kernel_rfl) (fun K hK => ?_))
        go_simp
        refine hK.out _ _ ?_
        clear hK K hbx
        refine wpAnyE_done (by kernel_rfl) ?_ _
        go_wp2
        go_meet
        have hg := setRow_grown w7 q cs
        have hp := P7.out.box R.out (by decide) (by have := RN.out.2.1; have := QR.out.2.1; omega) HQN.out HGE.out hg
        exact ⟨q, rfl, V7.out.box hp.1 hg (by have := RN.out.2.2; have := QR.out.2.2.1; omega) (by have := RN.out.2.2; omega), hp, (hg.block _ (lt_of_heap Q7.out) (by intro e; injection e with e; have := RN.out.2.1; omega)).trans Q7.out, setRow_heap w7 q _ cs _ _ R.out, ⟨RN.out.2.1, by have := RN.out.2.2; have := QR.out.2.2.1; omega, RN.out.2.2⟩⟩
    · go_simp
      rw [← HZS.out]
      have hb := bel1 w0 (.cells zs 35)
      have V0 := Lib.hid (V0.out.below hb)
      have P0 := Lib.hid (P0.out.below hb)
      have RN : Hid (n ≤ w0.heap.size ∧ r < w0.heap.size ∧ p3 < w0.heap.size) := ⟨by have := lt_of_heap Q0.out; have := QR.out.1; omega, lt_of_heap Q0.out, L0.out⟩
      have L0 : Hid (p3 < (w0.alloc (.cells zs 35)).heap.size) := Nat.lt_of_lt_of_le L0.out hb.size
      have Q0 := Lib.hid ((hb.block _ (lt_of_heap Q0.out)).trans Q0.out)
      have R := Lib.hid (heap_new_D w0 (.cells zs 35))
      obtain ⟨wa, hwa⟩ : ∃ W, W = w0.alloc (.cells zs 35) := ⟨_, rfl⟩
      rw [← hwa] at V0 P0 Q0 L0 R ⊢
      obtain ⟨q, hq⟩ : ∃ q, q = w0.heap.size := ⟨_, rfl⟩
      rw [← hq] at R RN ⊢
      clear hwa hb hq
      refine hK.out _ _ V0.out.sw (fun _ => ?_)
      clear hK K
      refine wpAnyE_ready (rs := [4]) (by kernel_rfl) (by simp) (AllReadyE.cons rfl (fun K hK => ?_) AllReadyE.nil)
      go_simp
      refine (vnumM_any 9 _ V0.out HS.out E0.out).mono ?_
      rintro _ w1 ⟨rfl, hp⟩
      have V1 := Lib.hid (V0.out.post hp)
      have P1 := Lib.hid (P0.out.trans hp)
      have Q1 := Lib.hid (hp.heap Q0.out QR.out.1)
      have L1 : Hid (p3 < w1.heap.size) := Nat.lt_of_lt_of_le L0.out hp.2.size
      have R := Lib.hid (hp.heap R.out RN.out.1)
      clear hp
      refine hK.out _ _ V1.out.sw (fun _ => ?_)
      clear hK K
      refine wpAnyE_ready (rs := [6]) (by kernel_rfl) (by simp) (AllReadyE.cons rfl (fun K hK => ?_) AllReadyE.nil)
      go_simp
      refine (vnum_any V1.out HS.out E1.out).mono ?_
      rintro _ w2 ⟨rfl, hp⟩
      have V2 := Lib.hid (V1.out.post hp)
      have P2 := Lib.hid (P1.out.trans hp)
      have Q2 := Lib.hid (hp.heap Q1.out QR.out.1)
      have L2 : Hid (p3 < w2.heap.size) := Nat.lt_of_lt_of_le L1.out hp.2.size
      have R := Lib.hid (hp.heap R.out RN.out.1)
      clear hp
      refine hK.out _ _ V2.out.sw (fun _ => ?_)
      clear hK K
      refine wpAnyE_ready (rs := [8]) (by kernel_rfl) (by simp) (AllReadyE.cons rfl (fun K hK => ?_) AllReadyE.nil)
      go_simp
      refine (vnum_any V2.out HS.out E2.out).mono ?_
      rintro _ w3 ⟨rfl, hp⟩
      have V3 := Lib.hid (V2.out.post hp)
      have P3 := Lib.hid (P2.out.trans hp)
      have Q3 := Lib.hid (hp.heap Q2.out QR.out.1)
      have L3 : Hid (p3 < w3.heap.size) := Nat.lt_of_lt_of_le L2.out hp.2.size
      have R := Lib.hid (hp.heap R.out RN.out.1)
      clear hp
      refine hK.out _ _ V3.out.sw (fun _ => ?_)
      clear hK K
      refine wpAnyE_ready (rs := [10]) (by kernel_rfl) (by simp) (AllReadyE.cons rfl (fun K hK => ?_) AllReadyE.nil)
      go_simp
      refine (vnum_any V3.out HS.out E3.out).mono ?_
      rintro _ w4 ⟨rfl, hp⟩
      have V4 := Lib.hid (V3.out.post hp)
      have P4 := Lib.hid (P3.out.trans hp)
      have Q4 := Lib.hid (hp.heap Q3.out QR.out.1)
      have L4 : Hid (p3 < w4.heap.size) := Nat.lt_of_lt_of_le L3.out hp.2.size
      have R := Lib.hid (hp.heap R.out RN.out.1)
      clear hp
      refine hK.out _ _ V4.out.sw (fun _ => ?_)
      clear hK K
      refine wpAnyE_ready (rs := [12]) (by kernel_rfl) (by simp) (AllReadyE.cons rfl (fun K hK => ?_) AllReadyE.nil)
      go_simp
      refine (vnum_any V4.out HS.out E4.out).mono ?_
      rintro _ w5 ⟨rfl, hp⟩
      have V5 := Lib.hid (V4.out.post hp)
      have P5 := Lib.hid (P4.out.trans hp)
      have Q5 := Lib.hid (hp.heap Q4.out QR.out.1)
      have L5 : Hid (p3 < w5.heap.size) := Nat.lt_of_lt_of_le L4.out hp.2.size
      have R := Lib.hid (hp.heap R.out RN.out.1)
      clear hp
      refine hK.out _ _ V5.out.sw (fun _ => ?_)
      clear hK K
      refine wpAnyE_ready (rs := [14]) (by kernel_rfl) (by simp) (AllReadyE.cons rfl (fun K hK => ?_) AllReadyE.nil)
      go_simp
      refine (vnum_any V5.out HS.out E5.out).mono ?_
      rintro _ w6 ⟨rfl, hp⟩
      have V6 := Lib.hid (V5.out.post hp)
      have P6 := Lib.hid (P5.out.trans hp)
      have Q6 := Lib.hid (hp.heap Q5.out QR.out.1)
      have L6 : Hid (p3 < w6.heap.size) := Nat.lt_of_lt_of_le L5.out hp.2.size
      have R := Lib.hid (hp.heap R.out RN.out.1)
      clear hp
      refine hK.out _ _ V6.out.sw (fun _ => ?_)
      clear hK K
      refine wpAnyE_ready (rs := [16]) (by kernel_rfl) (by simp) (AllReadyE.cons rfl (fun K hK => ?_) AllReadyE.nil)
      go_simp
      refine (vnum_any V6.out HS.out E6.out).mono ?_
      rintro _ w7 ⟨rfl, hp⟩
      have V7 := Lib.hid (V6.out.post hp)
      have P7 := Lib.hid (P6.out.trans hp)
      have Q7 := Lib.hid (hp.heap Q6.out QR.out.1)
      have L7 : Hid (p3 < w7.heap.size) := Nat.lt_of_lt_of_le L6.out hp.2.size
      have R := Lib.hid (hp.heap R.out RN.out.1)
      clear hp
      refine hK.out _ _ V7.out.sw (fun _ => ?_)
      clear hK K
      have hS := V7.out.sw
      unfold SW at hS
      refine takeD (some 24) (i := 17) (v := ?_) rfl rfl (by kernel_rfl) (by kernel_rfl) (by kernel_rfl) (fun _ _ _ h => h) (Or.inl ⟨by rfl, ?_⟩) hS ?_
      rotate_left
      · (intro W hW; (try dsimp only at hW); go_simp; with_reducible rfl)
      simp only [Act.put, List.setIfInBounds_toArray, List.set_cons_zero, List.set_cons_succ]
      rw [← HC2.out]
      have hbx := run_storeCells_all _ q _ _ cs R.out (by rw [HZ, HI]) H1
      refine wpAnyE_ready (rs := [19]) (by kernel_rfl) (by simp) (AllReadyE.last rfl (by kernel_rfl) (fun K hK => ?_))
      go_simp
      refine hK.out _ _ ?_
      clear hK K hbx
      refine wpAnyE_done (by kernel_rfl) ?_ _
      go_wp2
      go_meet
      have hg := setRow_grown w7 q cs
      have hp := P7.out.box R.out (by decide) (by have := RN.out.2.1; have := QR.out.2.1; omega) HQN.out HGE.out hg
      exact ⟨q, rfl, V7.out.box hp.1 hg (by have := RN.out.2.2; have := QR.out.2.2.1; omega) (by have := RN.out.2.2; omega), hp, (hg.block _ (lt_of_heap Q7.out) (by intro e; injection e with e; have := RN.out.2.1; omega)).trans Q7.out, setRow_heap w7 q _ cs _ _ R.out, ⟨RN.out.2.1, by have := RN.out.2.2; have := QR.out.2.2.1; omega, RN.out.2.2⟩⟩
  obtain ⟨q, rfl, hAJ⟩ := hcut
  have V2 := Lib.hid hAJ.v
  have P2 := Lib.hid hAJ.p
  have O2 := Lib.hid hAJ.o
  have R2 := Lib.hid hAJ.hr
  have QN : Hid (n ≤ q ∧ n ≤ r ∧ r < q ∧ w.heap.size ≤ r ∧ p1 ≠ q ∧ p3 ≠ q) := by have h1 := hAJ.q1; have := QR.out.1; have := QR.out.2.1; exact ⟨by omega, by omega, by omega, by omega, by omega, by omega⟩
  obtain ⟨w2, hw2⟩ : ∃ W, W = wc := ⟨_, rfl⟩
  rw [← hw2] at V2 P2 O2 R2 ⊢
  obtain ⟨cs2, hc2⟩ : ∃ y, y = cs := ⟨_, rfl⟩
  rw [← hc2] at R2 HC2
  clear hw2 hc2 hAJ V00 B00 O0 QR HI H1
  go_wp2_with fail
  refine wp_region_E (S := fun W => W.cell? ⟨p1, 0, none⟩ = some (.pointer (some ⟨B, 0, none⟩)) ∧ W.cell? ⟨p3, 0, none⟩ = some (.func (.func 76) #[.pointer (some ⟨B, 0, none⟩)] #[]) ∧ W.cell? ⟨B, 0, none⟩ = some (.pointer (some ⟨b, 0, none⟩))) (by kernel_rfl) ?_
  have hbd := (Below.refl w2.heap.size w2).drew
  have Vd := Lib.hid (V2.out.below hbd)
  have Pd := Lib.hid (P2.out.below hbd)
  have Rd := Lib.hid ((hbd.block _ (lt_of_heap R2.out)).trans R2.out)
  have Od := Lib.hid ((hbd.block _ (lt_of_heap O2.out)).trans O2.out)
  clear hbd
  have hS := Vd.out.sw
  unfold SW at hS
  refine takeD (some 25) (i := 0) (v := ?_) rfl rfl (by kernel_rfl) (by kernel_rfl) (by kernel_rfl) (fun _ _ _ h => h) (Or.inl ⟨by rfl, ?_⟩) hS ?_
  rotate_left
  · (intro W hW; (try dsimp only at hW); go_simp; with_reducible rfl)
  simp only [Act.put, List.setIfInBounds_toArray, List.set_cons_zero, List.set_cons_succ]
  refine takeD (some 27) (i := 2) (v := ?_) rfl rfl (by kernel_rfl) (by kernel_rfl) (by kernel_rfl) (fun _ _ _ h => h) (Or.inl ⟨by rfl, ?_⟩) hS ?_
  rotate_left
  · (intro W hW; (try dsimp only at hW); go_simp; with_reducible rfl)
  simp only [Act.put, List.setIfInBounds_toArray, List.set_cons_zero, List.set_cons_succ]
  refine wpAnyE_ready (rs := [1]) (by kernel_rfl) (by simp) (AllReadyE.cons rfl (fun K hK => ?_) AllReadyE.nil)
  go_simp
  refine (vnum_any Vd.out HS.out E7.out).mono ?_
  rintro _ we ⟨rfl, hp⟩
  have Ve := Lib.hid (Vd.out.post hp)
  have Pe := Lib.hid (Pd.out.trans hp)
  have Re := Lib.hid (hp.heap Rd.out QN.out.1)
  have Oe := Lib.hid (hp.heap Od.out QN.out.2.1)
  clear hp
  refine hK.out _ _ Ve.out.sw (fun _ => ?_)
  clear hK K
  refine wpAnyE_ready (rs := [3]) (by kernel_rfl) (by simp) (AllReadyE.cons rfl (fun K hK => ?_) AllReadyE.nil)
  go_simp
  refine (vnum_any Ve.out HS.out E8.out).mono ?_
  rintro _ wb ⟨rfl, hp⟩
  have Vb := Lib.hid (Ve.out.post hp)
  have Pb := Lib.hid (Pe.out.trans hp)
  have Rb := Lib.hid (hp.heap Re.out QN.out.1)
  have Ob := Lib.hid (hp.heap Oe.out QN.out.2.1)
  clear hp
  refine hK.out _ _ Vb.out.sw (fun _ => ?_)
  clear hK K
  have hS := Vb.out.sw
  unfold SW at hS
  refine takeD (some 29) (i := 4) (v := ?_) rfl rfl (by kernel_rfl) (by kernel_rfl) (by kernel_rfl) (fun _ _ _ h => h) (Or.inl ⟨by rfl, ?_⟩) hS ?_
  rotate_left
  · (intro W hW; (try dsimp only at hW); go_simp; with_reducible rfl)
  simp only [Act.put, List.setIfInBounds_toArray, List.set_cons_zero, List.set_cons_succ]
  refine takeD (some 30) (i := 5) (v := ?_) rfl rfl (by kernel_rfl) (by kernel_rfl) (by kernel_rfl) (fun _ _ _ h => h) (Or.inl ⟨by rfl, ?_⟩) hS ?_
  rotate_left
  · (intro W hW; (try dsimp only at hW); go_simp; with_reducible rfl)
  simp only [Act.put, List.setIfInBounds_toArray, List.set_cons_zero, List.set_cons_succ]
  have cc13 : wb.cell? ⟨q, 13, none⟩ = some (.int .i64 0) := by rw [heap_cell Rb.out, HC2.out]; rfl
  have ff13 := Lib.frozen_of_heap Rb.out 13
  have cc14 : wb.cell? ⟨q, 14, none⟩ = some (.int .i64 0) := by rw [heap_cell Rb.out, HC2.out]; rfl
  have ff14 := Lib.frozen_of_heap Rb.out 14
  refine wpAnyE_ready (rs := [6]) (by kernel_rfl) (by simp) (AllReadyE.last rfl (by kernel_rfl) (fun K hK => ?_))
  go_simp
  refine hK.out _ _ ?_
  clear hK K
  refine wpAnyE_done (by kernel_rfl) ?_ _
  go_upto_region 4 with (fail)
  have hg : wb.grownBy ((wb.setCell ⟨q, 13, none⟩ (.int .i64 (x7 : Int))).setCell ⟨q, 14, none⟩ (.int .i64 (x8 : Int))) (some q) := by
    repeat' (first | exact World.grownBy.refl _ _ | (refine grown_setCell_M ?_ rfl _))
  have P3 := Lib.hid (Pb.out.box Rb.out (by decide) (by have := QN.out.2.2.1; have := QN.out.2.2.2.1; omega) HQN.out HGE.out hg)
  have V3 := Lib.hid (Vb.out.box P3.out.1 hg QN.out.2.2.2.2.1 QN.out.2.2.2.2.2)
  have R3 := Lib.hid (heap_set (heap_set Rb.out 13 (.int .i64 (x7 : Int))) 14 (.int .i64 (x8 : Int)))
  have O3 := Lib.hid ((hg.block _ (lt_of_heap Ob.out) (by intro e; injection e with e; have := QN.out.2.2.1; omega)).trans Ob.out)
  obtain ⟨cs3, hcs⟩ : ∃ y, ((cs2.setIfInBounds 13 (.int .i64 (x7 : Int))).setIfInBounds 14 (.int .i64 (x8 : Int))) = y := ⟨_, rfl⟩
  rw [hcs] at R3
  have HC3 : Hid (cs3 = #[.int .i64 (x0 : Int), .int .i64 (x1 : Int), .int .i64 (x2 : Int), .int .i64 (x3 : Int), .int .i64 (x4 : Int), .int .i64 (x5 : Int), .int .i64 (x6 : Int), .slice none 0 0, .slice none 0 0, .slice none 0 0, .slice none 0 0, .slice none 0 0, .slice none 0 0, .int .i64 (x7 : Int), .int .i64 (x8 : Int), .int .i64 0, .slice none 0 0, .slice none 0 0]) := by show _ = _; rw [← hcs, HC2.out]; rfl
  obtain ⟨w3, hw⟩ : ∃ W, W = ((wb.setCell ⟨q, 13, none⟩ (.int .i64 (x7 : Int))).setCell ⟨q, 14, none⟩ (.int .i64 (x8 : Int))) := ⟨_, rfl⟩
  rw [← hw] at P3 V3 R3 O3  ⊢
  clear Vd Pd Rd Od Ve Pe Re Oe
  clear hw hg hcs Vb Pb Rb Ob V2 P2 R2 O2 HC2 cc13 ff13 cc14 ff14
  have v1 := V3.out.v1
  have v3 := V3.out.v3
  have cB := V3.out.i.c0
  go_wp2_with fail
  refine (vnum_any V3.out HS.out E9.out).mono ?_
  rintro _ wb ⟨rfl, hp⟩
  have Vb := Lib.hid (V3.out.post hp)
  have Pb := Lib.hid (P3.out.trans hp)
  have Rb := Lib.hid (hp.heap R3.out QN.out.1)
  have Ob := Lib.hid (hp.heap O3.out QN.out.2.1)
  have HMA3 : Hid (w.heap.size ≤ w3.heap.size ∧ n ≤ w3.heap.size ∧ q < w3.heap.size ∧ r < w3.heap.size) := ⟨P3.out.2.size, Nat.le_trans HQN.out P3.out.2.size, lt_of_heap R3.out, lt_of_heap O3.out⟩
  clear hp
  clear v1 v3 cB
  have cc15 : wb.cell? ⟨q, 15, none⟩ = some (.int .i64 0) := by rw [heap_cell Rb.out, HC3.out]; rfl
  have ff15 := Lib.frozen_of_heap Rb.out 15
  go_upto_region 5 with (fail)
  have hg : wb.grownBy (wb.setCell ⟨q, 15, none⟩ (.int .i64 (x9 : Int))) (some q) := by
    repeat' (first | exact World.grownBy.refl _ _ | (refine grown_setCell_M ?_ rfl _))
  have P4 := Lib.hid (Pb.out.box Rb.out (by decide) (by have := QN.out.2.2.1; have := QN.out.2.2.2.1; omega) HQN.out HGE.out hg)
  have V4 := Lib.hid (Vb.out.box P4.out.1 hg QN.out.2.2.2.2.1 QN.out.2.2.2.2.2)
  have R4 := Lib.hid (heap_set Rb.out 15 (.int .i64 (x9 : Int)))
  have O4 := Lib.hid ((hg.block _ (lt_of_heap Ob.out) (by intro e; injection e with e; have := QN.out.2.2.1; omega)).trans Ob.out)
  obtain ⟨cs4, hcs⟩ : ∃ y, (cs3.setIfInBounds 15 (.int .i64 (x9 : Int))) = y := ⟨_, rfl⟩
  rw [hcs] at R4
  have HC4 : Hid (cs4 = #[.int .i64 (x0 : Int), .int .i64 (x1 : Int), .int .i64 (x2 : Int), .int .i64 (x3 : Int), .int .i64 (x4 : Int), .int .i64 (x5 : Int), .int .i64 (x6 : Int), .slice none 0 0, .slice none 0 0, .slice none 0 0, .slice none 0 0, .slice none 0 0, .slice none 0 0, .int .i64 (x7 : Int), .int .i64 (x8 : Int), .int .i64 (x9 : Int), .slice none 0 0, .slice none 0 0]) := by show _ = _; rw [← hcs, HC3.out]; rfl
  obtain ⟨w4, hw⟩ : ∃ W, W = (wb.setCell ⟨q, 15, none⟩ (.int .i64 (x9 : Int))) := ⟨_, rfl⟩
  rw [← hw] at P4 V4 R4 O4  ⊢
  clear hw hg hcs Vb Pb Rb Ob V3 P3 R3 O3 HC3 cc15 ff15
  have v1 := V4.out.v1
  have v3 := V4.out.v3
  have cB := V4.out.i.c0
  go_wp2_with fail
  refine (icommands_any n b B s st10 w4 V4.out.i HGE.out HS.out).mono ?_
  rintro _ wb ⟨xe, rfl, hx, hms, hp⟩
  rw [E10.out] at hms hp
  simp only at hms hp
  have XE := Lib.hid hx
  have ME := Lib.hid hms
  clear hx hms
  have Vb := Lib.hid (V4.out.post hp)
  have Pb := Lib.hid (P4.out.trans hp)
  have Rb := Lib.hid (hp.heap R4.out QN.out.1)
  have Ob := Lib.hid (hp.heap O4.out QN.out.2.1)
  have HMA4 : Hid (w.heap.size ≤ w4.heap.size ∧ n ≤ w4.heap.size ∧ q < w4.heap.size ∧ r < w4.heap.size) := ⟨P4.out.2.size, Nat.le_trans HQN.out P4.out.2.size, lt_of_heap R4.out, lt_of_heap O4.out⟩
  clear hp
  clear v1 v3 cB
  have cc7 : wb.cell? ⟨q, 7, none⟩ = some (.slice none 0 0) := by rw [heap_cell Rb.out, HC4.out]; rfl
  have ff7 := Lib.frozen_of_heap Rb.out 7
  go_upto_region 6 with (fail)
  have hg : wb.grownBy (wb.setCell ⟨q, 7, none⟩ (.slice xe.A xe.z.size xe.c)) (some q) := by
    repeat' (first | exact World.grownBy.refl _ _ | (refine grown_setCell_M ?_ rfl _))
  have P5 := Lib.hid (Pb.out.box Rb.out (by decide) (by have := QN.out.2.2.1; have := QN.out.2.2.2.1; omega) HQN.out HGE.out hg)
  have V5 := Lib.hid (Vb.out.box P5.out.1 hg QN.out.2.2.2.2.1 QN.out.2.2.2.2.2)
  have R5 := Lib.hid (heap_set Rb.out 7 (.slice xe.A xe.z.size xe.c))
  have O5 := Lib.hid ((hg.block _ (lt_of_heap Ob.out) (by intro e; injection e with e; have := QN.out.2.2.1; omega)).trans Ob.out)
  have XE := Lib.hid (XE.out.kf (KF.of_grown hg HMA4.out.2.2.1))
  obtain ⟨cs5, hcs⟩ : ∃ y, (cs4.setIfInBounds 7 (.slice xe.A xe.z.size xe.c)) = y := ⟨_, rfl⟩
  rw [hcs] at R5
  have HC5 : Hid (cs5 = #[.int .i64 (x0 : Int), .int .i64 (x1 : Int), .int .i64 (x2 : Int), .int .i64 (x3 : Int), .int .i64 (x4 : Int), .int .i64 (x5 : Int), .int .i64 (x6 : Int), .slice xe.A xe.z.size xe.c, .slice none 0 0, .slice none 0 0, .slice none 0 0, .slice none 0 0, .slice none 0 0, .int .i64 (x7 : Int), .int .i64 (x8 : Int), .int .i64 (x9 : Int), .slice none 0 0, .slice none 0 0]) := by show _ = _; rw [← hcs, HC4.out]; rfl
  obtain ⟨w5, hw⟩ : ∃ W, W = (wb.setCell ⟨q, 7, none⟩ (.slice xe.A xe.z.size xe.c)) := ⟨_, rfl⟩
  rw [← hw] at P5 V5 R5 O5 XE ⊢
  clear hw hg hcs Vb Pb Rb Ob V4 P4 R4 O4 HC4 cc7 ff7
  have v1 := V5.out.v1
  have v3 := V5.out.v3
  have cB := V5.out.i.c0
  go_wp2_with fail
  refine (vgrpA_any V5.out HS.out E11.out).mono ?_
  rintro _ wb ⟨Ao, co, rfl, hr1, hcz1, hno1, hfr1, hp⟩
  have XO : Hid (RdX kdA w5.heap.size ⟨Ao, co, pairsOf go⟩ wb) := ⟨hr1, hcz1, hno1, hfr1, fun i hi => ⟨trivial, fun _ hb => hb.elim⟩⟩
  clear hr1 hcz1 hno1 hfr1
  have Vb := Lib.hid (V5.out.post hp)
  have Pb := Lib.hid (P5.out.trans hp)
  have Rb := Lib.hid (hp.heap R5.out QN.out.1)
  have Ob := Lib.hid (hp.heap O5.out QN.out.2.1)
  have XE := Lib.hid (XE.out.kf (KF.of_post hp HMA4.out.2.1))
  have HMA5 : Hid (w.heap.size ≤ w5.heap.size ∧ n ≤ w5.heap.size ∧ q < w5.heap.size ∧ r < w5.heap.size) := ⟨P5.out.2.size, Nat.le_trans HQN.out P5.out.2.size, lt_of_heap R5.out, lt_of_heap O5.out⟩
  clear hp
  clear v1 v3 cB
  have cc8 : wb.cell? ⟨q, 8, none⟩ = some (.slice none 0 0) := by rw [heap_cell Rb.out, HC5.out]; rfl
  have ff8 := Lib.frozen_of_heap Rb.out 8
  go_upto_region 7 with (fail)
  have hg : wb.grownBy (wb.setCell ⟨q, 8, none⟩ (.slice Ao (pairsOf go).size co)) (some q) := by
    repeat' (first | exact World.grownBy.refl _ _ | (refine grown_setCell_M ?_ rfl _))
  have P6 := Lib.hid (Pb.out.box Rb.out (by decide) (by have := QN.out.2.2.1; have := QN.out.2.2.2.1; omega) HQN.out HGE.out hg)
  have V6 := Lib.hid (Vb.out.box P6.out.1 hg QN.out.2.2.2.2.1 QN.out.2.2.2.2.2)
  have R6 := Lib.hid (heap_set Rb.out 8 (.slice Ao (pairsOf go).size co))
  have O6 := Lib.hid ((hg.block _ (lt_of_heap Ob.out) (by intro e; injection e with e; have := QN.out.2.2.1; omega)).trans Ob.out)
  have XE := Lib.hid (XE.out.kf (KF.of_grown hg HMA4.out.2.2.1))
  have XO := Lib.hid (XO.out.kf (KF.of_grown hg HMA5.out.2.2.1))
  obtain ⟨cs6, hcs⟩ : ∃ y, (cs5.setIfInBounds 8 (.slice Ao (pairsOf go).size co)) = y := ⟨_, rfl⟩
  rw [hcs] at R6
  have HC6 : Hid (cs6 = #[.int .i64 (x0 : Int), .int .i64 (x1 : Int), .int .i64 (x2 : Int), .int .i64 (x3 : Int), .int .i64 (x4 : Int), .int .i64 (x5 : Int), .int .i64 (x6 : Int), .slice xe.A xe.z.size xe.c, .slice Ao (pairsOf go).size co, .slice none 0 0, .slice none 0 0, .slice none 0 0, .slice none 0 0, .int .i64 (x7 : Int), .int .i64 (x8 : Int), .int .i64 (x9 : Int), .slice none 0 0, .slice none 0 0]) := by show _ = _; rw [← hcs, HC5.out]; rfl
  obtain ⟨w6, hw⟩ : ∃ W, W = (wb.setCell ⟨q, 8, none⟩ (.slice Ao (pairsOf go).size co)) := ⟨_, rfl⟩
  rw [← hw] at P6 V6 R6 O6 XE XO ⊢
  clear hw hg hcs Vb Pb Rb Ob V5 P5 R5 O5 HC5 cc8 ff8
  have v1 := V6.out.v1
  have v3 := V6.out.v3
  have cB := V6.out.i.c0
  have cN : w6.cell? ⟨q, 0, none⟩ = some (.int .i64 (x0 : Int)) := by rw [heap_cell R6.out, HC6.out]; rfl
  go_wp2_with fail
  refine (timesK_any n b B s p1 p3 st12 x0 w6 V6.out HS.out HM.out).mono ?_
  rintro _ wb hT
  obtain ⟨xk, rfl, hx, hms, hp⟩ := hT.ls
  have hE : manyR _ _ _ = _ := E12.out
  rw [hE] at hms hp
  simp only at hms hp
  have XK := Lib.hid hx
  have MK := Lib.hid hms
  clear hx hms hT hE cN
  have Vb := Lib.hid (V6.out.post hp)
  have Pb := Lib.hid (P6.out.trans hp)
  have Rb := Lib.hid (hp.heap R6.out QN.out.1)
  have Ob := Lib.hid (hp.heap O6.out QN.out.2.1)
  have XE := Lib.hid (XE.out.kf (KF.of_post hp HMA4.out.2.1))
  have XO := Lib.hid (XO.out.kf (KF.of_post hp HMA5.out.2.1))
  have HMA6 : Hid (w.heap.size ≤ w6.heap.size ∧ n ≤ w6.heap.size ∧ q < w6.heap.size ∧ r < w6.heap.size) := ⟨P6.out.2.size, Nat.le_trans HQN.out P6.out.2.size, lt_of_heap R6.out, lt_of_heap O6.out⟩
  clear hp
  clear v1 v3 cB
  have cc9 : wb.cell? ⟨q, 9, none⟩ = some (.slice none 0 0) := by rw [heap_cell Rb.out, HC6.out]; rfl
  have ff9 := Lib.frozen_of_heap Rb.out 9
  go_upto_region 8 with (fail)
  have hg : wb.grownBy (wb.setCell ⟨q, 9, none⟩ (.slice xk.A xk.z.size xk.c)) (some q) := by
    repeat' (first | exact World.grownBy.refl _ _ | (refine grown_setCell_M ?_ rfl _))
  have P7 := Lib.hid (Pb.out.box Rb.out (by decide) (by have := QN.out.2.2.1; have := QN.out.2.2.2.1; omega) HQN.out HGE.out hg)
  have V7 := Lib.hid (Vb.out.box P7.out.1 hg QN.out.2.2.2.2.1 QN.out.2.2.2.2.2)
  have R7 := Lib.hid (heap_set Rb.out 9 (.slice xk.A xk.z.size xk.c))
  have O7 := Lib.hid ((hg.block _ (lt_of_heap Ob.out) (by intro e; injection e with e; have := QN.out.2.2.1; omega)).trans Ob.out)
  have XE := Lib.hid (XE.out.kf (KF.of_grown hg HMA4.out.2.2.1))
  have XO := Lib.hid (XO.out.kf (KF.of_grown hg HMA5.out.2.2.1))
  have XK := Lib.hid (XK.out.kf (KF.of_grown hg HMA6.out.2.2.1))
  obtain ⟨cs7, hcs⟩ : ∃ y, (cs6.setIfInBounds 9 (.slice xk.A xk.z.size xk.c)) = y := ⟨_, rfl⟩
  rw [hcs] at R7
  have HC7 : Hid (cs7 = #[.int .i64 (x0 : Int), .int .i64 (x1 : Int), .int .i64 (x2 : Int), .int .i64 (x3 : Int), .int .i64 (x4 : Int), .int .i64 (x5 : Int), .int .i64 (x6 : Int), .slice xe.A xe.z.size xe.c, .slice Ao (pairsOf go).size co, .slice xk.A xk.z.size xk.c, .slice none 0 0, .slice none 0 0, .slice none 0 0, .int .i64 (x7 : Int), .int .i64 (x8 : Int), .int .i64 (x9 : Int), .slice none 0 0, .slice none 0 0]) := by show _ = _; rw [← hcs, HC6.out]; rfl
  obtain ⟨w7, hw⟩ : ∃ W, W = (wb.setCell ⟨q, 9, none⟩ (.slice xk.A xk.z.size xk.c)) := ⟨_, rfl⟩
  rw [← hw] at P7 V7 R7 O7 XE XO XK ⊢
  clear hw hg hcs Vb Pb Rb Ob V6 P6 R6 O6 HC6 cc9 ff9
  have v1 := V7.out.v1
  have v3 := V7.out.v3
  have cB := V7.out.i.c0
  have cN : w7.cell? ⟨q, 0, none⟩ = some (.int .i64 (x0 : Int)) := by rw [heap_cell R7.out, HC7.out]; rfl
  go_wp2_with fail
  refine (timesI_any n b B s p1 p3 st13 x0 w7 V7.out HS.out HM.out).mono ?_
  rintro _ wb hT
  obtain ⟨xm, rfl, hx, hms, hp⟩ := hT.ls
  have hE : manyR _ _ _ = _ := E13.out
  rw [hE] at hms hp
  simp only at hms hp
  have XM := Lib.hid hx
  have MM := Lib.hid hms
  clear hx hms hT hE cN
  have Vb := Lib.hid (V7.out.post hp)
  have Pb := Lib.hid (P7.out.trans hp)
  have Rb := Lib.hid (hp.heap R7.out QN.out.1)
  have Ob := Lib.hid (hp.heap O7.out QN.out.2.1)
  have XE := Lib.hid (XE.out.kf (KF.of_post hp HMA4.out.2.1))
  have XO := Lib.hid (XO.out.kf (KF.of_post hp HMA5.out.2.1))
  have XK := Lib.hid (XK.out.kf (KF.of_post hp HMA6.out.2.1))
  have HMA7 : Hid (w.heap.size ≤ w7.heap.size ∧ n ≤ w7.heap.size ∧ q < w7.heap.size ∧ r < w7.heap.size) := ⟨P7.out.2.size, Nat.le_trans HQN.out P7.out.2.size, lt_of_heap R7.out, lt_of_heap O7.out⟩
  clear hp
  clear v1 v3 cB
  have cc10 : wb.cell? ⟨q, 10, none⟩ = some (.slice none 0 0) := by rw [heap_cell Rb.out, HC7.out]; rfl
  have ff10 := Lib.frozen_of_heap Rb.out 10
  go_upto_region 9 with (fail)
  have hg : wb.grownBy (wb.setCell ⟨q, 10, none⟩ (.slice xm.A xm.z.size xm.c)) (some q) := by
    repeat' (first | exact World.grownBy.refl _ _ | (refine grown_setCell_M ?_ rfl _))
  have P8 := Lib.hid (Pb.out.box Rb.out (by decide) (by have := QN.out.2.2.1; have := QN.out.2.2.2.1; omega) HQN.out HGE.out hg)
  have V8 := Lib.hid (Vb.out.box P8.out.1 hg QN.out.2.2.2.2.1 QN.out.2.2.2.2.2)
  have R8 := Lib.hid (heap_set Rb.out 10 (.slice xm.A xm.z.size xm.c))
  have O8 := Lib.hid ((hg.block _ (lt_of_heap Ob.out) (by intro e; injection e with e; have := QN.out.2.2.1; omega)).trans Ob.out)
  have XE := Lib.hid (XE.out.kf (KF.of_grown hg HMA4.out.2.2.1))
  have XO := Lib.hid (XO.out.kf (KF.of_grown hg HMA5.out.2.2.1))
  have XK := Lib.hid (XK.out.kf (KF.of_grown hg HMA6.out.2.2.1))
  have XM := Lib.hid (XM.out.kf (KF.of_grown hg HMA7.out.2.2.1))
  obtain ⟨cs8, hcs⟩ : ∃ y, (cs7.setIfInBounds 10 (.slice xm.A xm.z.size xm.c)) = y := ⟨_, rfl⟩
  rw [hcs] at R8
  have HC8 : Hid (cs8 = #[.int .i64 (x0 : Int), .int .i64 (x1 : Int), .int .i64 (x2 : Int), .int .i64 (x3 : Int), .int .i64 (x4 : Int), .int .i64 (x5 : Int), .int .i64 (x6 : Int), .slice xe.A xe.z.size xe.c, .slice Ao (pairsOf go).size co, .slice xk.A xk.z.size xk.c, .slice xm.A xm.z.size xm.c, .slice none 0 0, .slice none 0 0, .int .i64 (x7 : Int), .int .i64 (x8 : Int), .int .i64 (x9 : Int), .slice none 0 0, .slice none 0 0]) := by show _ = _; rw [← hcs, HC7.out]; rfl
  obtain ⟨w8, hw⟩ : ∃ W, W = (wb.setCell ⟨q, 10, none⟩ (.slice xm.A xm.z.size xm.c)) := ⟨_, rfl⟩
  rw [← hw] at P8 V8 R8 O8 XE XO XK XM ⊢
  clear hw hg hcs Vb Pb Rb Ob V7 P7 R7 O7 HC7 cc10 ff10
  have HRW : Hid (Calls Tryz.prog 87 #[.pointer (some ⟨b, 0, none⟩), .int .i64 1000] w8 fun e w' => RRowP b s (rowR s.data.toList 1000 st14.r) w8 e w') := RRow_any b s st14.r 1000 w8 V8.out.i.rd V8.out.i.gl HS.out (by decide)
  have v1 := V8.out.v1
  have v3 := V8.out.v3
  have cB := V8.out.i.c0
  go_wp2_with fail
  refine (HRW.out).mono ?_
  rintro _ wb ⟨Af, cf, rfl, hrd, hnc, hlo, hP⟩
  have hst : (⟨(rowR s.data.toList 1000 st14.r).1, st14.odd⟩ : IS) = st15 := by
    have h1 : ((rowC 1 (by decide)).rd s.data.toList st14).1 = st15 := congrArg (fun q => q.1) E14.out
    rw [← h1]
    show _ = (⟨(rowR s.data.toList 1000 st14.r).1, st14.odd || decide ((rowR s.data.toList 1000 st14.r).2.length % 1 ≠ 0)⟩ : IS)
    rw [Nat.mod_one]
    simp
  have hp : IPost n b B s st15 w8 wb := by rw [← hst]; exact ⟨V8.out.i.rpost hP, hP.gr2⟩
  obtain ⟨lf, hlf⟩ : ∃ y, (rowR s.data.toList 1000 st14.r).2 = y := ⟨_, rfl⟩
  rw [hlf] at hrd hnc ⊢
  have XF : Hid (RdN0 w8.heap.size ⟨Af, cf, ints lf⟩ wb) := ⟨hrd, by rw [ints_size]; exact hnc.2, hnc.1, hlo⟩
  have MF : Hid (intM (ints lf) = gf ∧ nnI (ints lf)) := by
    have h1 := ints_M lf
    have h2 : grp 1 (lf.length / 1) lf = gf := by rw [← hlf]; exact congrArg (fun q => q.2) E14.out
    exact ⟨h1.1.trans h2, h1.2⟩
  have hzf : (ints lf).size = lf.length := ints_size lf
  have HZF := Lib.hid hzf
  rw [← hzf]
  clear hrd hnc hlo hP hst hlf hzf HRW
  have Vb := Lib.hid (V8.out.post hp)
  have Pb := Lib.hid (P8.out.trans hp)
  have Rb := Lib.hid (hp.heap R8.out QN.out.1)
  have Ob := Lib.hid (hp.heap O8.out QN.out.2.1)
  have XE := Lib.hid (XE.out.kf (KF.of_post hp HMA4.out.2.1))
  have XO := Lib.hid (XO.out.kf (KF.of_post hp HMA5.out.2.1))
  have XK := Lib.hid (XK.out.kf (KF.of_post hp HMA6.out.2.1))
  have XM := Lib.hid (XM.out.kf (KF.of_post hp HMA7.out.2.1))
  have HMA8 : Hid (w.heap.size ≤ w8.heap.size ∧ n ≤ w8.heap.size ∧ q < w8.heap.size ∧ r < w8.heap.size) := ⟨P8.out.2.size, Nat.le_trans HQN.out P8.out.2.size, lt_of_heap R8.out, lt_of_heap O8.out⟩
  clear hp
  clear v1 v3 cB
  have cc11 : wb.cell? ⟨q, 11, none⟩ = some (.slice none 0 0) := by rw [heap_cell Rb.out, HC8.out]; rfl
  have ff11 := Lib.frozen_of_heap Rb.out 11
  go_upto_region 10 with (fail)
  have hg : wb.grownBy (wb.setCell ⟨q, 11, none⟩ (.slice Af (ints lf).size cf)) (some q) := by
    repeat' (first | exact World.grownBy.refl _ _ | (refine grown_setCell_M ?_ rfl _))
  have P9 := Lib.hid (Pb.out.box Rb.out (by decide) (by have := QN.out.2.2.1; have := QN.out.2.2.2.1; omega) HQN.out HGE.out hg)
  have V9 := Lib.hid (Vb.out.box P9.out.1 hg QN.out.2.2.2.2.1 QN.out.2.2.2.2.2)
  have R9 := Lib.hid (heap_set Rb.out 11 (.slice Af (ints lf).size cf))
  have O9 := Lib.hid ((hg.block _ (lt_of_heap Ob.out) (by intro e; injection e with e; have := QN.out.2.2.1; omega)).trans Ob.out)
  have XE := Lib.hid (XE.out.kf (KF.of_grown hg HMA4.out.2.2.1))
  have XO := Lib.hid (XO.out.kf (KF.of_grown hg HMA5.out.2.2.1))
  have XK := Lib.hid (XK.out.kf (KF.of_grown hg HMA6.out.2.2.1))
  have XM := Lib.hid (XM.out.kf (KF.of_grown hg HMA7.out.2.2.1))
  have XF := Lib.hid (XF.out.kf (KF.of_grown hg HMA8.out.2.2.1))
  obtain ⟨cs9, hcs⟩ : ∃ y, (cs8.setIfInBounds 11 (.slice Af (ints lf).size cf)) = y := ⟨_, rfl⟩
  rw [hcs] at R9
  have HC9 : Hid (cs9 = #[.int .i64 (x0 : Int), .int .i64 (x1 : Int), .int .i64 (x2 : Int), .int .i64 (x3 : Int), .int .i64 (x4 : Int), .int .i64 (x5 : Int), .int .i64 (x6 : Int), .slice xe.A xe.z.size xe.c, .slice Ao (pairsOf go).size co, .slice xk.A xk.z.size xk.c, .slice xm.A xm.z.size xm.c, .slice Af (ints lf).size cf, .slice none 0 0, .int .i64 (x7 : Int), .int .i64 (x8 : Int), .int .i64 (x9 : Int), .slice none 0 0, .slice none 0 0]) := by show _ = _; rw [← hcs, HC8.out]; rfl
  obtain ⟨w9, hw⟩ : ∃ W, W = (wb.setCell ⟨q, 11, none⟩ (.slice Af (ints lf).size cf)) := ⟨_, rfl⟩
  rw [← hw] at P9 V9 R9 O9 XE XO XK XM XF ⊢
  clear hw hg hcs Vb Pb Rb Ob V8 P8 R8 O8 HC8 cc11 ff11
  have v1 := V9.out.v1
  have v3 := V9.out.v3
  have cB := V9.out.i.c0
  have cN : w9.cell? ⟨q, 0, none⟩ = some (.int .i64 (x0 : Int)) := by rw [heap_cell R9.out, HC9.out]; rfl
  go_wp2_with fail
  refine (timesD_any n b B s p1 p3 st15 x0 w9 V9.out HS.out HM.out).mono ?_
  rintro _ wb hT
  obtain ⟨xd, rfl, hx, hms, hp⟩ := hT.ls
  have hE : manyR _ _ _ = _ := E15.out
  rw [hE] at hms hp
  simp only at hms hp
  have XD := Lib.hid hx
  have MD := Lib.hid hms
  clear hx hms hT hE cN
  have Vb := Lib.hid (V9.out.post hp)
  have Pb := Lib.hid (P9.out.trans hp)
  have Rb := Lib.hid (hp.heap R9.out QN.out.1)
  have Ob := Lib.hid (hp.heap O9.out QN.out.2.1)
  have XE := Lib.hid (XE.out.kf (KF.of_post hp HMA4.out.2.1))
  have XO := Lib.hid (XO.out.kf (KF.of_post hp HMA5.out.2.1))
  have XK := Lib.hid (XK.out.kf (KF.of_post hp HMA6.out.2.1))
  have XM := Lib.hid (XM.out.kf (KF.of_post hp HMA7.out.2.1))
  have XF := Lib.hid (XF.out.kf (KF.of_post hp HMA8.out.2.1))
  have HMA9 : Hid (w.heap.size ≤ w9.heap.size ∧ n ≤ w9.heap.size ∧ q < w9.heap.size ∧ r < w9.heap.size) := ⟨P9.out.2.size, Nat.le_trans HQN.out P9.out.2.size, lt_of_heap R9.out, lt_of_heap O9.out⟩
  clear hp
  clear v1 v3 cB
  have cc12 : wb.cell? ⟨q, 12, none⟩ = some (.slice none 0 0) := by rw [heap_cell Rb.out, HC9.out]; rfl
  have ff12 := Lib.frozen_of_heap Rb.out 12
  go_upto_region 11 with (fail)
  have hg : wb.grownBy (wb.setCell ⟨q, 12, none⟩ (.slice xd.A xd.z.size xd.c)) (some q) := by
    repeat' (first | exact World.grownBy.refl _ _ | (refine grown_setCell_M ?_ rfl _))
  have P10 := Lib.hid (Pb.out.box Rb.out (by decide) (by have := QN.out.2.2.1; have := QN.out.2.2.2.1; omega) HQN.out HGE.out hg)
  have V10 := Lib.hid (Vb.out.box P10.out.1 hg QN.out.2.2.2.2.1 QN.out.2.2.2.2.2)
  have R10 := Lib.hid (heap_set Rb.out 12 (.slice xd.A xd.z.size xd.c))
  have O10 := Lib.hid ((hg.block _ (lt_of_heap Ob.out) (by intro e; injection e with e; have := QN.out.2.2.1; omega)).trans Ob.out)
  have XE := Lib.hid (XE.out.kf (KF.of_grown hg HMA4.out.2.2.1))
  have XO := Lib.hid (XO.out.kf (KF.of_grown hg HMA5.out.2.2.1))
  have XK := Lib.hid (XK.out.kf (KF.of_grown hg HMA6.out.2.2.1))
  have XM := Lib.hid (XM.out.kf (KF.of_grown hg HMA7.out.2.2.1))
  have XF := Lib.hid (XF.out.kf (KF.of_grown hg HMA8.out.2.2.1))
  have XD := Lib.hid (XD.out.kf (KF.of_grown hg HMA9.out.2.2.1))
  obtain ⟨cs10, hcs⟩ : ∃ y, (cs9.setIfInBounds 12 (.slice xd.A xd.z.size xd.c)) = y := ⟨_, rfl⟩
  rw [hcs] at R10
  have HC10 : Hid (cs10 = #[.int .i64 (x0 : Int), .int .i64 (x1 : Int), .int .i64 (x2 : Int), .int .i64 (x3 : Int), .int .i64 (x4 : Int), .int .i64 (x5 : Int), .int .i64 (x6 : Int), .slice xe.A xe.z.size xe.c, .slice Ao (pairsOf go).size co, .slice xk.A xk.z.size xk.c, .slice xm.A xm.z.size xm.c, .slice Af (ints lf).size cf, .slice xd.A xd.z.size xd.c, .int .i64 (x7 : Int), .int .i64 (x8 : Int), .int .i64 (x9 : Int), .slice none 0 0, .slice none 0 0]) := by show _ = _; rw [← hcs, HC9.out]; rfl
  obtain ⟨w10, hw⟩ : ∃ W, W = (wb.setCell ⟨q, 12, none⟩ (.slice xd.A xd.z.size xd.c)) := ⟨_, rfl⟩
  rw [← hw] at P10 V10 R10 O10 XE XO XK XM XF XD ⊢
  clear hw hg hcs Vb Pb Rb Ob V9 P9 R9 O9 HC9 cc12 ff12
  have v1 := V10.out.v1
  have v3 := V10.out.v3
  have cB := V10.out.i.c0
  go_wp2_with fail
  refine (istore_any n b B s st16 w10 V10.out.i HGE.out HS.out).mono ?_
  rintro _ wb ⟨xi, xs, rfl, hx, hy, hms, hp⟩
  rw [E16.out] at hms hp
  simp only at hms hp
  have XI := Lib.hid hx
  have XS := Lib.hid hy
  have MS := Lib.hid hms
  clear hx hy hms
  have Vb := Lib.hid (V10.out.post hp)
  have Pb := Lib.hid (P10.out.trans hp)
  have Rb := Lib.hid (hp.heap R10.out QN.out.1)
  have Ob := Lib.hid (hp.heap O10.out QN.out.2.1)
  have XE := Lib.hid (XE.out.kf (KF.of_post hp HMA4.out.2.1))
  have XO := Lib.hid (XO.out.kf (KF.of_post hp HMA5.out.2.1))
  have XK := Lib.hid (XK.out.kf (KF.of_post hp HMA6.out.2.1))
  have XM := Lib.hid (XM.out.kf (KF.of_post hp HMA7.out.2.1))
  have XF := Lib.hid (XF.out.kf (KF.of_post hp HMA8.out.2.1))
  have XD := Lib.hid (XD.out.kf (KF.of_post hp HMA9.out.2.1))
  have HMA10 : Hid (w.heap.size ≤ w10.heap.size ∧ n ≤ w10.heap.size ∧ q < w10.heap.size ∧ r < w10.heap.size) := ⟨P10.out.2.size, Nat.le_trans HQN.out P10.out.2.size, lt_of_heap R10.out, lt_of_heap O10.out⟩
  clear hp
  clear v1 v3 cB
  have cc16 : wb.cell? ⟨q, 16, none⟩ = some (.slice none 0 0) := by rw [heap_cell Rb.out, HC10.out]; rfl
  have ff16 := Lib.frozen_of_heap Rb.out 16
  have cc17 : wb.cell? ⟨q, 17, none⟩ = some (.slice none 0 0) := by rw [heap_cell Rb.out, HC10.out]; rfl
  have ff17 := Lib.frozen_of_heap Rb.out 17
  go_upto_region 12 with (fail)
  have hg : wb.grownBy ((wb.setCell ⟨q, 16, none⟩ (.slice xi.A xi.z.size xi.c)).setCell ⟨q, 17, none⟩ (.slice xs.A xs.z.size xs.c)) (some q) := by
    repeat' (first | exact World.grownBy.refl _ _ | (refine grown_setCell_M ?_ rfl _))
  have P11 := Lib.hid (Pb.out.box Rb.out (by decide) (by have := QN.out.2.2.1; have := QN.out.2.2.2.1; omega) HQN.out HGE.out hg)
  have V11 := Lib.hid (Vb.out.box P11.out.1 hg QN.out.2.2.2.2.1 QN.out.2.2.2.2.2)
  have R11 := Lib.hid (heap_set (heap_set Rb.out 16 (.slice xi.A xi.z.size xi.c)) 17 (.slice xs.A xs.z.size xs.c))
  have O11 := Lib.hid ((hg.block _ (lt_of_heap Ob.out) (by intro e; injection e with e; have := QN.out.2.2.1; omega)).trans Ob.out)
  have XE := Lib.hid (XE.out.kf (KF.of_grown hg HMA4.out.2.2.1))
  have XO := Lib.hid (XO.out.kf (KF.of_grown hg HMA5.out.2.2.1))
  have XK := Lib.hid (XK.out.kf (KF.of_grown hg HMA6.out.2.2.1))
  have XM := Lib.hid (XM.out.kf (KF.of_grown hg HMA7.out.2.2.1))
  have XF := Lib.hid (XF.out.kf (KF.of_grown hg HMA8.out.2.2.1))
  have XD := Lib.hid (XD.out.kf (KF.of_grown hg HMA9.out.2.2.1))
  have XI := Lib.hid (XI.out.kf (KF.of_grown hg HMA10.out.2.2.1))
  have XS := Lib.hid (XS.out.kf (KF.of_grown hg HMA10.out.2.2.1))
  obtain ⟨cs11, hcs⟩ : ∃ y, ((cs10.setIfInBounds 16 (.slice xi.A xi.z.size xi.c)).setIfInBounds 17 (.slice xs.A xs.z.size xs.c)) = y := ⟨_, rfl⟩
  rw [hcs] at R11
  have HC11 : Hid (cs11 = #[.int .i64 (x0 : Int), .int .i64 (x1 : Int), .int .i64 (x2 : Int), .int .i64 (x3 : Int), .int .i64 (x4 : Int), .int .i64 (x5 : Int), .int .i64 (x6 : Int), .slice xe.A xe.z.size xe.c, .slice Ao (pairsOf go).size co, .slice xk.A xk.z.size xk.c, .slice xm.A xm.z.size xm.c, .slice Af (ints lf).size cf, .slice xd.A xd.z.size xd.c, .int .i64 (x7 : Int), .int .i64 (x8 : Int), .int .i64 (x9 : Int), .slice xi.A xi.z.size xi.c, .slice xs.A xs.z.size xs.c]) := by show _ = _; rw [← hcs, HC10.out]; rfl
  obtain ⟨w11, hw⟩ : ∃ W, W = ((wb.setCell ⟨q, 16, none⟩ (.slice xi.A xi.z.size xi.c)).setCell ⟨q, 17, none⟩ (.slice xs.A xs.z.size xs.c)) := ⟨_, rfl⟩
  rw [← hw] at P11 V11 R11 O11 XE XO XK XM XF XD XI XS ⊢
  clear hw hg hcs Vb Pb Rb Ob V10 P10 R10 O10 HC10 cc16 ff16 cc17 ff17
  have HI : cs11.size = 18 := by rw [HC11.out]; rfl
  have H1 : allOne cs11 = true := by rw [HC11.out]; simp [allOne, Value.oneCell']
  have y1 := boxAt_of R11.out HI
  have y2 := rowAt_of R11.out
  have y3 := boxAt_of O11.out HZ
  go_wp2
  clear y1 y2 y3
  have hg := setRow_grown w11 r cs11
  have hE := setRow_heap w11 r _ cs11 _ _ O11.out
  refine bodyPost_ret (v := .agg cs11) (results_rep (t := 2) rfl rfl hE HI) rfl ?_
  have XE := Lib.hid (XE.out.kf (KF.of_grown hg HMA4.out.2.2.2))
  have XO := Lib.hid (XO.out.kf (KF.of_grown hg HMA5.out.2.2.2))
  have XK := Lib.hid (XK.out.kf (KF.of_grown hg HMA6.out.2.2.2))
  have XM := Lib.hid (XM.out.kf (KF.of_grown hg HMA7.out.2.2.2))
  have XF := Lib.hid (XF.out.kf (KF.of_grown hg HMA8.out.2.2.2))
  have XD := Lib.hid (XD.out.kf (KF.of_grown hg HMA9.out.2.2.2))
  have XI := Lib.hid (XI.out.kf (KF.of_grown hg HMA10.out.2.2.2))
  have XS := Lib.hid (XS.out.kf (KF.of_grown hg HMA10.out.2.2.2))
  refine ⟨⟨(x0 : Int), (x1 : Int), (x2 : Int), (x3 : Int), (x4 : Int), (x5 : Int), (x6 : Int), xe, ⟨Ao, co, pairsOf go⟩, xk, xm, ⟨Af, cf, ints lf⟩, xd, (x7 : Int), (x8 : Int), (x9 : Int), xi, xs⟩, by rw [HC11.out]; rfl, fun W' hk => ?_, fun h0 => ?_, P11.out.box O11.out (by decide) QN.out.2.2.2.1 HQN.out HGE.out hg⟩
  · have ze := XE.out.kf (hk.mono HMA4.out.1)
    have zo := XO.out.kf (hk.mono HMA5.out.1)
    have zk := XK.out.kf (hk.mono HMA6.out.1)
    have zm := XM.out.kf (hk.mono HMA7.out.1)
    have zf := XF.out.kf (hk.mono HMA8.out.1)
    have zd := XD.out.kf (hk.mono HMA9.out.1)
    have zi := XI.out.kf (hk.mono HMA10.out.1)
    have zs' := XS.out.kf (hk.mono HMA10.out.1)
    exact ⟨⟨ze.rd, fun i hi => (ze.el i hi).1⟩, ⟨zo.rd, zo.no⟩, ⟨zk.rd, zk.cz, zk.no⟩, fun i hi => (zk.el i hi).1, ⟨zm.rd, zm.cz, zm.no⟩, fun i hi => (zm.el i hi).1, ⟨zf.rd, zf.cz, zf.no⟩, ⟨zd.rd, zd.cz, zd.no⟩, fun i hi => (zd.el i hi).1, ⟨zi.rd, zi.cz, zi.no⟩, ⟨zs'.rd, zs'.cz, zs'.no⟩⟩
  · have me := ME.out (B11.out h0)
    have mk := MK.out (B13.out h0)
    have mm := MM.out (B14.out h0)
    have md := MD.out (B16.out h0)
    have ms := MS.out h0
    refine ⟨?_, ⟨⟨Int.natCast_nonneg _, Int.natCast_nonneg _, Int.natCast_nonneg _, Int.natCast_nonneg _, Int.natCast_nonneg _, Int.natCast_nonneg _, Int.natCast_nonneg _, Int.natCast_nonneg _, Int.natCast_nonneg _, Int.natCast_nonneg _⟩, me.2, MO.out.2, mk.2, mm.2, MF.out.2, md.2, ms.1.2, ms.2.2⟩⟩
    show ((x0, [x1, x2, x3, x4, x5, x6, x7, x8, x9]), (xe.z.toList.map entM, (pairM (pairsOf go), (xk.z.toList.map knM, (xm.z.toList.map (fun x => intM x.z), (intM (ints lf), (xd.z.toList.map (fun x => pairM x.z), (xi.z.toList.map itM, xs.z.toList.map seM)))))))) = _
    rw [me.1, MO.out.1, mk.1, mm.1, MF.out.1, md.1, ms.1.1, ms.2.1]
end Go.Proofs.YtnmojicfmcbgmaaGreatDoor
