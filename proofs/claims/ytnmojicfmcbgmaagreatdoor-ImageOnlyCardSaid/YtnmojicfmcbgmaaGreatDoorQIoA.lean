/- The image's reader: what the closures of all and commands read. -/
import Derived.Test.YtnmojicfmcbgmaaGreatDoorQImY
import Derived.Test.YtnmojicfmcbgmaaGreatDoorQStF
namespace Go.Proofs.YtnmojicfmcbgmaaGreatDoor
open Go.RowKit Go.Sort Go.Lib Nb
set_option maxRecDepth 100000
theorem rowC_each {n : Nat} {hn : 0 < n} {s : List UInt8} {st st' : IS} {g : GS} (hx : (rowC n hn).rd s st = (st', g)) : ∀ x ∈ g, x.length = n := by
  have : g = grp n ((rowR s 1000 st.r).2.length / n) (rowR s 1000 st.r).2 := (congrArg (fun q => q.2) hx).symm
  rw [this]
  exact grp_each n _ _ (Nat.div_mul_le_self _ _)
section
variable {n b B p1 p3 : Nat} {s : ByteArray} {st st' : IS} {w : World} {g : GS}
theorem vgrpA_any (h : VRd n b B s p1 p3 st w) (hs : s.size ≤ 1000000) (hx : (rowC 2 (by decide)).rd s.data.toList st = (st', g)) :
    Calls Tryz.prog 79 #[.pointer (some ⟨B, 0, none⟩), .int .i64 2, .func (.func 80) #[] #[]] w fun e w' => GrP encA_I 2 n b B s (pairsOf g) st' w e w' := by
  have := groupsA_any n b B s st w h.i hs
  rw [hx] at this
  exact this
theorem vgrpR_any (h : VRd n b B s p1 p3 st w) (hs : s.size ≤ 1000000) (hx : (rowC 2 (by decide)).rd s.data.toList st = (st', g)) :
    Calls Tryz.prog 83 #[.pointer (some ⟨B, 0, none⟩), .int .i64 2, .func (.func 84) #[] #[]] w fun e w' => GrP encR 2 n b B s (pairsOf g) st' w e w' := by
  have := groupsR_any n b B s st w h.i hs
  rw [hx] at this
  exact this
theorem vgrpK_any (h : VRd n b B s p1 p3 st w) (hs : s.size ≤ 1000000) (hx : (rowC 6 (by decide)).rd s.data.toList st = (st', g)) :
    Calls Tryz.prog 136 #[.pointer (some ⟨B, 0, none⟩), .int .i64 6, .func (.func 137) #[] #[]] w fun e w' => GrP encK 6 n b B s (acksOf g) st' w e w' := by
  have := groupsK_any n b B s st w h.i hs
  rw [hx] at this
  exact this
end
theorem GrP.keep {α : Type} [Inhabited α] {en : α → List Value} {k : Nat} {w w' : World} {A : Option Addr} {d : Array α} {n b B : Nat} {s : ByteArray} {st : IS} (h : RdK en k w.heap.size w A d) (hA : Fr n A) (hp : IPost n b B s st w w') : RdK en k w'.heap.size w' A d := h.gr2 hp.2 hA hp.1.hb hp.1.hB
theorem rwB.fr {α : Type} {A : Option Addr} {d : Array α} {blk m : Nat} (h : rwB A d blk) (hA : Fr m A) : m ≤ blk := by
  obtain ⟨_, a, ha, rfl⟩ := h
  exact hA a ha
set_option maxHeartbeats 2000000 in
theorem known_any {n b B p1 p3 : Nat} {s : ByteArray} {st : IS} {w : World} (h : VRd n b B s p1 p3 st w) (hs : s.size ≤ 1000000) :
    Calls Tryz.prog 82 #[.pointer (some ⟨p3, 0, none⟩), .pointer (some ⟨p1, 0, none⟩)] w fun e w' => OfP kdK knM nnK (fun x => .agg (encKE x).toArray) n b B s (knC.rd s.data.toList st) w e w' := by
  rcases e0 : nC.rd s.data.toList st with ⟨st1, x0⟩
  rcases e1 : (rowC 2 (by decide)).rd s.data.toList st1 with ⟨st2, g1⟩
  rcases e2 : (rowC 2 (by decide)).rd s.data.toList st2 with ⟨st3, g2⟩
  have EE : Hid (knC.rd s.data.toList st = (st3, (x0, (g1, g2)))) := pair_rd e0 (pair_rd e1 e2)
  have E0 := Lib.hid e0
  have E1 := Lib.hid e1
  have E2 := Lib.hid e2
  have M1 := Lib.hid (pairs_of (rowC_each e1))
  have M2 := Lib.hid (pairs_of (rowC_each e2))
  rw [EE.out]
  clear e0 e1 e2
  have H := Lib.hid h
  have HS := Lib.hid hs
  have HQN := Lib.hid h.i.hn
  clear h hs
  go_enter Tryz.func82, Tryz.ntmps82
  go_wp2_with fail
  refine wp_region_E (S := fun W => W.cell? ⟨p1, 0, none⟩ = some (.pointer (some ⟨B, 0, none⟩)) ∧ W.cell? ⟨p3, 0, none⟩ = some (.func (.func 76) #[.pointer (some ⟨B, 0, none⟩)] #[]) ∧ W.cell? ⟨B, 0, none⟩ = some (.pointer (some ⟨b, 0, none⟩))) (by kernel_rfl) ?_
  have B0 := Lib.hid (bel1 w (.cells #[.int .i64 0, .slice none 0 0, .slice none 0 0] 81)).drew
  have V0 := Lib.hid (H.out.below B0.out)
  have P0 := Lib.hid (IPost.of_below H.out.i B0.out)
  have Q0 := Lib.hid (hA1 w (.cells #[.int .i64 0, .slice none 0 0, .slice none 0 0] 81))
  have hS := V0.out.sw
  unfold SW at hS
  refine takeD (some 3) (i := 0) (v := ?_) rfl rfl (by kernel_rfl) (by kernel_rfl) (by kernel_rfl) (fun _ _ _ h => h) (Or.inl ⟨by rfl, ?_⟩) hS ?_
  rotate_left
  · (intro W hW; (try dsimp only at hW); go_simp; with_reducible rfl)
  simp only [Act.put, List.setIfInBounds_toArray, List.set_cons_zero, List.set_cons_succ]
  refine takeD (some 5) (i := 2) (v := ?_) rfl rfl (by kernel_rfl) (by kernel_rfl) (by kernel_rfl) (fun _ _ _ h => h) (Or.inl ⟨by rfl, ?_⟩) hS ?_
  rotate_left
  · (intro W hW; (try dsimp only at hW); go_simp; with_reducible rfl)
  simp only [Act.put, List.setIfInBounds_toArray, List.set_cons_zero, List.set_cons_succ]
  refine takeD (some 7) (i := 4) (v := ?_) rfl rfl (by kernel_rfl) (by kernel_rfl) (by kernel_rfl) (fun _ _ _ h => h) (Or.inl ⟨by rfl, ?_⟩) hS ?_
  rotate_left
  · (intro W hW; (try dsimp only at hW); go_simp; with_reducible rfl)
  simp only [Act.put, List.setIfInBounds_toArray, List.set_cons_zero, List.set_cons_succ]
  refine wpAnyE_ready (rs := [1]) (by kernel_rfl) (by simp) (AllReadyE.cons rfl (fun K hK => ?_) AllReadyE.nil)
  go_simp
  refine (vnum_any V0.out HS.out E0.out).mono ?_
  rintro _ w1 ⟨rfl, hp⟩
  have V1 := Lib.hid (V0.out.post hp)
  have P1 := Lib.hid (P0.out.trans hp)
  have Q1 := Lib.hid (hp.heap Q0.out HQN.out)
  clear hp
  refine hK.out _ _ V1.out.sw (fun _ => ?_)
  clear hK K
  refine wpAnyE_ready (rs := [3]) (by kernel_rfl) (by simp) (AllReadyE.cons rfl (fun K hK => ?_) AllReadyE.nil)
  go_simp
  refine (vgrpR_any V1.out HS.out E1.out).mono ?_
  rintro _ w2 ⟨A1, cc1, rfl, hr1, hcz1, hno1, hfr1, hp⟩
  have V2 := Lib.hid (V1.out.post hp)
  have P2 := Lib.hid (P1.out.trans hp)
  have Q2 := Lib.hid (hp.heap Q1.out HQN.out)
  have R1 := Lib.hid hr1
  have N1 := Lib.hid hno1
  have F1 : Hid (Fr (w.heap.size + 1) A1) := hfr1.mono (by have := P1.out.2.size; have := lt_of_heap Q1.out; omega)
  clear hr1 hno1 hfr1 hcz1
  clear hp
  refine hK.out _ _ V2.out.sw (fun _ => ?_)
  clear hK K
  refine wpAnyE_ready (rs := [5]) (by kernel_rfl) (by simp) (AllReadyE.cons rfl (fun K hK => ?_) AllReadyE.nil)
  go_simp
  refine (vgrpA_any V2.out HS.out E2.out).mono ?_
  rintro _ w3 ⟨A2, cc2, rfl, hr2, hcz2, hno2, hfr2, hp⟩
  have V3 := Lib.hid (V2.out.post hp)
  have P3 := Lib.hid (P2.out.trans hp)
  have Q3 := Lib.hid (hp.heap Q2.out HQN.out)
  have R1b := Lib.hid (GrP.keep R1.out (F1.out.mono (by have := HQN.out; omega)) hp)
  have R2 := Lib.hid hr2
  have N2 := Lib.hid hno2
  have F2 : Hid (Fr (w.heap.size + 1) A2) := hfr2.mono (by have := P2.out.2.size; have := lt_of_heap Q2.out; omega)
  clear hr2 hno2 hfr2 hcz2
  clear hp
  refine hK.out _ _ V3.out.sw (fun _ => ?_)
  clear hK K
  have hS := V3.out.sw
  unfold SW at hS
  refine takeD (some 9) (i := 6) (v := ?_) rfl rfl (by kernel_rfl) (by kernel_rfl) (by kernel_rfl) (fun _ _ _ h => h) (Or.inl ⟨by rfl, ?_⟩) hS ?_
  rotate_left
  · (intro W hW; (try dsimp only at hW); go_simp; with_reducible rfl)
  simp only [Act.put, List.setIfInBounds_toArray, List.set_cons_zero, List.set_cons_succ]
  have c0 := (heap_cell Q3.out 0).trans rfl
  have f0 := Lib.frozen_of_heap Q3.out 0
  have c1 := (heap_cell Q3.out 1).trans rfl
  have f1 := Lib.frozen_of_heap Q3.out 1
  have c2 := (heap_cell Q3.out 2).trans rfl
  have f2 := Lib.frozen_of_heap Q3.out 2
  have hqlt := lt_of_heap Q3.out
  refine wpAnyE_ready (rs := [7]) (by kernel_rfl) (by simp) (AllReadyE.last rfl (by kernel_rfl) (fun K hK => ?_))
  go_simp
  refine hK.out _ _ ?_
  clear hK K c0 f0 c1 f1 c2 f2 hqlt
  refine wpAnyE_done (by kernel_rfl) ?_ _
  go_wp2
  have hE := heap_k3 Q3.out (.int .i64 (x0 : Int)) (.slice A1 (pairsOf g1).size cc1) (.slice A2 (pairsOf g2).size cc2)
  have k0 := (heap_cell hE 0).trans rfl
  have k1 := (heap_cell hE 1).trans rfl
  have k2 := (heap_cell hE 2).trans rfl
  refine bodyPost_ret (v := .agg #[.int .i64 (x0 : Int), .slice A1 (pairsOf g1).size cc1, .slice A2 (pairsOf g2).size cc2]) (by simp [results, Tryz.results82, go_sem, k0, k1, k2]) rfl ?_
  have hgw : w3.grownBy ((((w3.setCell ⟨w.heap.size, 0, none⟩ (.int .i64 (x0 : Int))).setCell ⟨w.heap.size, 1, none⟩ (.slice A1 (pairsOf g1).size cc1)).setCell ⟨w.heap.size, 2, none⟩ (.slice A2 (pairsOf g2).size cc2))) (some w.heap.size) := by
    repeat' (first | exact World.grownBy.refl _ _ | (refine grown_setCell_M ?_ rfl _))
  have hK3 : RdKE w3 ⟨(x0 : Int), ⟨A1, cc1, pairsOf g1⟩, ⟨A2, cc2, pairsOf g2⟩⟩ := ⟨⟨R1b.out, N1.out⟩, ⟨R2.out, N2.out⟩⟩
  have hrw : ∀ blk, kdK.rw ⟨(x0 : Int), ⟨A1, cc1, pairsOf g1⟩, ⟨A2, cc2, pairsOf g2⟩⟩ blk → w.heap.size + 1 ≤ blk := fun blk hb => by
    rcases hb with hb | hb
    · exact hb.fr F1.out
    · exact hb.fr F2.out
  refine ⟨⟨(x0 : Int), ⟨A1, cc1, pairsOf g1⟩, ⟨A2, cc2, pairsOf g2⟩⟩, rfl, kdK.keep hK3 hgw.size (fun blk hb => hgw.block blk (kdK.lt hK3 hb) (by have := hrw blk hb; intro e; injection e with e; omega)), (fun blk hb => by have := hrw blk hb; omega), ?_, ⟨Int.natCast_nonneg _, M1.out.2, M2.out.2⟩, P3.out.box Q3.out (by decide) (Nat.le_refl _) HQN.out H.out.ge hgw⟩
  show ((x0 : Int).toNat, (pairM (pairsOf g1), pairM (pairsOf g2))) = _
  rw [M1.out.1, M2.out.1]
  rfl
theorem marks_any {n b B p1 p3 : Nat} {s : ByteArray} {st : IS} {w : World} (h : VRd n b B s p1 p3 st w) (hs : s.size ≤ 1000000) :
    Calls Tryz.prog 86 #[.pointer (some ⟨p1, 0, none⟩)] w fun e w' => OfP kdI (fun x => intM x.z) (fun x => nnI x.z) RW.v n b B s ((rowC 1 (by decide)).rd s.data.toList st) w e w' := by
  have HROW : Hid (Calls Tryz.prog 87 #[.pointer (some ⟨b, 0, none⟩), .int .i64 1000] w fun e w' => RRowP b s (rowR s.data.toList 1000 st.r) w e w') := RRow_any b s st.r 1000 w h.i.rd h.i.gl hs (by decide)
  have H := Lib.hid h
  have c1 := h.v1
  have c2 := h.i.c0
  clear h hs
  go_enter Tryz.func86, Tryz.ntmps86
  go_wp2_with fail
  refine HROW.out.mono ?_
  rintro _ w1 ⟨A, cp, rfl, hrd, ⟨hnil, hcap⟩, hlo, hP⟩
  have HRD := Lib.hid hrd
  have HN := Lib.hid (And.intro hnil hcap)
  have HL := Lib.hid hlo
  have HP : Hid (IRd n b B s ⟨(rowR s.data.toList 1000 st.r).1, st.odd⟩ w1 ∧ Gr2 b B w w1) := ⟨H.out.i.rpost hP, hP.gr2⟩
  clear hrd hnil hcap hlo hP c1 c2
  go_wp2
  go_ret
  have hm := ints_M (rowR s.data.toList 1000 st.r).2
  refine ⟨⟨A, cp, ints (rowR s.data.toList 1000 st.r).2⟩, ?_, ⟨HRD.out, ?_, HN.out.1⟩, (fun blk hb => hb.fr HL.out), hm.1, hm.2, ?_, HP.out.2⟩
  · unfold RW.v
    rw [ints_size]
    rfl
  · show (ints (rowR s.data.toList 1000 st.r).2).size ≤ cp
    rw [ints_size]
    exact HN.out.2
  · have e : ((rowC 1 (by decide)).rd s.data.toList st).1 = ⟨(rowR s.data.toList 1000 st.r).1, st.odd⟩ := by
      show (⟨(rowR s.data.toList 1000 st.r).1, st.odd || decide ((rowR s.data.toList 1000 st.r).2.length % 1 ≠ 0)⟩ : IS) = _
      rw [Nat.mod_one]
      simp
    rw [e]
    exact HP.out.1
theorem done_any_X {n b B p1 p3 : Nat} {s : ByteArray} {st : IS} {w : World} (h : VRd n b B s p1 p3 st w) (hs : s.size ≤ 1000000) :
    Calls Tryz.prog 89 #[.pointer (some ⟨p1, 0, none⟩)] w fun e w' => OfP kdD (fun x => pairM x.z) (fun x => nnP x.z) RW.v n b B s ((rowC 2 (by decide)).rd s.data.toList st) w e w' := by
  rcases e1 : (rowC 2 (by decide)).rd s.data.toList st with ⟨st2, g1⟩
  have M1 := Lib.hid (pairs_of (rowC_each e1))
  have HG := Lib.hid (vgrpR_any h hs e1)
  have c1 := h.v1
  clear h hs e1
  go_enter Tryz.func89, Tryz.ntmps89
  go_wp2_with fail
  refine HG.out.mono ?_
  rintro _ w1 ⟨A1, cc1, rfl, hr1, hcz1, hno1, hfr1, hp⟩
  have R1 := Lib.hid (And.intro hr1 (And.intro hcz1 hno1))
  have F1 := Lib.hid hfr1
  have HP := Lib.hid hp
  clear hr1 hcz1 hno1 hfr1 hp c1
  go_wp2
  go_ret
  exact ⟨⟨A1, cc1, pairsOf g1⟩, rfl, ⟨R1.out.1, R1.out.2.1, R1.out.2.2⟩, (fun blk hb => hb.fr F1.out), M1.out.1, M1.out.2, HP.out⟩
end Go.Proofs.YtnmojicfmcbgmaaGreatDoor
