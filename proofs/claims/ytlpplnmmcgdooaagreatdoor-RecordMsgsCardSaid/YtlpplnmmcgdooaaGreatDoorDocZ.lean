/- The document's Put: a sound message, as long as its Check is known. -/
import Derived.Test.YtlpplnmmcgdooaaGreatDoorDocT
import Derived.Deep.CutRange
import Derived.Deep.CutBlock
namespace Go.Proofs.YtlpplnmmcgdooaaGreatDoor
open Go.RowKit Go.Sort Nb

attribute [local go_sem ↓] Go.wp_at_zero Go.wp_at_succ
/-- What the loop's loads read. -/
structure DPC (w4 : World) (g b off k n aC : Nat) (x : Int × Int) (w' : World) : Prop where
  bl : Below w4.heap.size w4 w'
  f : w'.cell? ⟨g, 11, none⟩ = some (.slice (some ⟨b, off, none⟩) n aC)
  a : w'.cell? ⟨b, off + k * 2, none⟩ = some (.int .i64 x.1)
  c : w'.cell? ⟨b, off + k * 2 + 1, none⟩ = some (.int .i64 x.2)
theorem keepD {w4 w' : World} {g b off k n aC : Nat} {x : Int × Int} (h : g < w4.heap.size ∧ b < w4.heap.size ∧ DPC w4 g b off k n aC x w4) (hb : Below w4.heap.size w4 w') :
    Below w4.heap.size w4 w' ∧ w'.cell? ⟨g, 11, none⟩ = some (.slice (some ⟨b, off, none⟩) n aC) ∧ w'.cell? ⟨b, off + k * 2, none⟩ = some (.int .i64 x.1) ∧ w'.cell? ⟨b, off + k * 2 + 1, none⟩ = some (.int .i64 x.2) :=
  ⟨hb, (hb.cell (p := ⟨g, 11, none⟩) h.1).trans h.2.2.f, (hb.cell (p := ⟨b, off + k * 2, none⟩) h.2.1).trans h.2.2.a, (hb.cell (p := ⟨b, off + k * 2 + 1, none⟩) h.2.1).trans h.2.2.c⟩
set_option maxRecDepth 100000 in
set_option maxHeartbeats 8000000 in
theorem dPutOk_of (HCK : DChk) (m : PM) (w : World) (hm : RdM w m) (h0 : chkM m = 0) :
    Calls Tryz.prog 11 #[msgV m] w fun e w' => e = .returned (.tuple #[.string ⟨(msgB m).toArray⟩, .int .i64 0]) ∧ Below w.heap.size w w' := by
  have hok := okM_of h0
  have HOK := Lib.hid hok
  have HC0 := Lib.hid (fun W (h : Below w.heap.size w W) => HCK m W (hm.next h))
  rw [h0] at HC0
  have HRM := Lib.hid hm
  have hsa := hok.ats
  clear hm h0 hok HCK
  unfold msgV at HC0 ⊢
  go_enter Tryz.func11, Tryz.ntmps11
  go_wp2_with fail
  refine (HC0.out _ (bel1 w _)).mono ?_
  rintro e w1 ⟨rfl, hb1⟩
  have HBX := Lib.hid hb1
  have HB1 := Lib.hid (belStep (bel1 w _) hb1)
  have hlt1 : w.heap.size < w1.heap.size := lt_of_heap (heap_box hb1)
  have p11 : w1.cell? ⟨w.heap.size, 11, none⟩ = some (.slice m.aA m.ats.size m.aC) := by rw [heap_cell (heap_box hb1)]; rfl
  clear hb1
  go_wp2
  obtain ⟨i0, hi0, hz0, hz1, hz2⟩ := info_parts int_info
  go_loopw [5, 6] (fun lv iv wr => MPutR m.ats w1 lv iv wr) (fun _ i _ => m.ats.size - (intOf i).toNat)
  case atStart => exact ⟨0, rfl, Nat.zero_le _, ⟨rfl, Or.inl ⟨rfl, rfl⟩⟩, Below.refl _ _⟩
  case round =>
    obtain ⟨k, rfl, hk, hown, hB⟩ := hrel
    by_cases hlt : k < m.ats.size
    · have kz : (k : Int) < (m.ats.size : Int) := by omega
      have k0 : (0 : Int) ≤ (k : Int) := by omega
      obtain ⟨b, off, hA, hbl, f⟩ := (HRM.out.ra.below HB1.out).at_ hlt
      have e0 := f 0 (by omega)
      have e1 := f 1 (by omega)
      have HD := Lib.hid (flA_take m.ats k hlt)
      generalize m.ats[k]! = x at e0 e1 HD
      simp only [Nat.add_zero, encA, List.getElem!_cons_zero, List.getElem!_cons_succ] at e0 e1
      rw [hA] at p11
      have HX : Hid (w.heap.size < w1.heap.size ∧ b < w1.heap.size ∧ DPC w1 w.heap.size b off k m.ats.size m.aC x w1) := ⟨hlt1, Nat.lt_of_lt_of_le hbl HB1.out.size, Below.refl _ _, p11, e0, e1⟩
      have hlen := flA_len (m.ats.toList.take k)
      have hlk : (flA (m.ats.toList.take k)).length ≤ 400 := by rw [hlen, List.length_take]; omega
      generalize flA (m.ats.toList.take k) = l at hlk HD hown
      obtain ⟨q0, q1, q2, q3⟩ := keepD HX.out hB
      have HO := Lib.hid hown
      have HLT := Lib.hid (fun (t : Nat) ht => (hown.lt t ht).2)
      have HBr := Lib.hid hB
      have hBr2 : Below w1.heap.size w1 wr := hB
      clear f hlen hB hown e0 e1 p11 q0 hA
      go_wp2_with fail
      go_region_held3 (fun w' => Below w1.heap.size w1 w' ∧ w'.cell? ⟨w.heap.size, 11, none⟩ = some (.slice (some ⟨b, off, none⟩) m.ats.size m.aC) ∧ w'.cell? ⟨b, off + k * 2, none⟩ = some (.int .i64 x.1) ∧ w'.cell? ⟨b, off + k * 2 + 1, none⟩ = some (.int .i64 x.2)) (first | assumption | exact keepD HX.out (by assumption) | exact keepD HX.out (And.left (by assumption)) | exact keepD HX.out (Below.drew (by assumption)) | exact keepD HX.out (Below.drew (And.left (by assumption))) | exact keepD HX.out (belAlloc (by assumption) _) | exact keepD HX.out (belAlloc (And.left (by assumption)) _) | exact keepD HX.out (belAlloc (by assumption) _).drew | exact keepD HX.out (belAlloc (And.left (by assumption)) _).drew | exact keepD HX.out (belAlloc (Below.drew (by assumption)) _) | exact keepD HX.out (belAlloc (Below.drew (And.left (by assumption))) _))
        (first
          | (refine step_append_B (by rfl) _ _ _ (by rfl) w1 3 i0 _ 1 8 Tryz.underlying23 hi0 hz0 hz1 hz2 rfl (by decide) _ l.length (l.map (Value.int .i64)) (by rfl) (by first | exact (HO.out.alloc _).drew | exact ((HO.out.alloc _).alloc _).drew) _ 1 1 [.int .i64 x.1] (by rfl) (by rfl) (by first | exact news_one (hA1 wr _) | exact news_one (hA2 wr _ _) | exact news_one (hA3 wr _ _)) (one_one _) (by unfold maxLen; omega) (by omega) (by first | assumption | exact And.left (by assumption)) ?_; intro v1 w5 hown1 hgrow1 hBw1)
          | ((refine step_append_B (by rfl) _ _ _ (by rfl) w1 3 i0 _ 1 8 Tryz.underlying23 hi0 hz0 hz1 hz2 rfl (by decide) v1 (l.length + 1) (l.map (Value.int .i64) ++ [.int .i64 x.1]) (by rfl) (by first | exact hown1 | exact (hown1.alloc _).drew | exact hown1.alloc _) _ 1 1 [.int .i64 x.2] (by rfl) (by rfl) (by first | exact farB HLT.out hgrow1 | exact farC HLT.out hgrow1 | exact news_one (hA1 w5 _) | exact news_one (heap_new w5 _)) (one_one _) (by unfold maxLen; omega) (by omega) (by first | assumption | exact And.left (by assumption)) ?_; intro v2 w6 hown2 hgrow2 hBw2)))
      all_goals
        go_wp2
        go_roundw
        case rel => exact ⟨k + 1, by go_num, by omega, by rw [HD.out]; simpa using hown2, hBw2⟩
        case measure => simp [intOf]; omega
    · obtain rfl : k = m.ats.size := by omega
      have et : m.ats.toList.take m.ats.size = m.ats.toList := List.take_of_length_le (by simp)
      rw [et] at hown
      obtain ⟨A, c, rfl, hrd, -, -⟩ := RdI.of_owns hown
      have hlt' : decide ((m.ats.size : Int) < (m.ats.size : Int)) = false := by simp
      have hok := HOK.out
      have HRL := Lib.hid hrd
      have HBr := Lib.hid hB
      have HQ : Hid (∀ W, Below wr.heap.size wr W → W.heap[w.heap.size]? = some (.cells #[.int .i64 m.k, .int .i64 m.fr, .int .i64 m.id, .int .i64 m.t, .int .i64 m.bal, .int .i64 m.abal, .int .i64 m.ph, .int .i64 m.q, .string m.pay, .int .i64 m.lo, .int .i64 m.hi, .slice m.aA m.ats.size m.aC, .slice m.mA m.mks.size m.mC, .int .i64 m.dn] 25 (0, 0))) := fun W hb => (hb.block _ (by have := hB.size; omega)).trans ((hB.block _ hlt1).trans (heap_box HBX.out))
      have hzr : w1.heap.size ≤ wr.heap.size := hB.size
      have HN8 : Hid (∀ (W : World) (g : Nat), W.heap[g]? = some (.cells #[.int .i64 m.k, .int .i64 m.fr, .int .i64 m.id, .int .i64 m.t, .int .i64 m.bal, .int .i64 m.abal, .int .i64 m.ph, .int .i64 m.q] 3 (0, 0)) → Calls Tryz.prog 42 #[.agg #[.string ⟨#[]⟩, .string ⟨#[]⟩, .int .i64 0], .slice (some ⟨g, 0, none⟩) 8 8] W fun e w' => e = .returned (outV (⟨#[]⟩ ++ ⟨((nats (m8 m)).flatMap numB).toArray⟩)) ∧ Below W.heap.size W w') := fun W g h => Nums_any ⟨#[]⟩ (some ⟨g, 0, none⟩) 8 (m8 m) W (rdI_blk (by rw [h]; simp [m8, encI])) hok.l8 (by show 8 ≤ 10000; omega) (by decide)
      have HN3 : Hid (∀ (x : ByteArray) (W : World) (g : Nat), x.size ≤ 900000000 → W.heap[g]? = some (.cells #[.int .i64 m.lo, .int .i64 m.hi, .int .i64 m.dn] 3 (0, 0)) → Calls Tryz.prog 42 #[.agg #[.string x, .string ⟨#[]⟩, .int .i64 0], .slice (some ⟨g, 0, none⟩) 3 3] W fun e w' => e = .returned (outV (x ++ ⟨((nats (m3 m)).flatMap numB).toArray⟩)) ∧ Below W.heap.size W w') := fun x W g hx h => Nums_any x (some ⟨g, 0, none⟩) 3 (m3 m) W (rdI_blk (by rw [h]; simp [m3, encI])) hok.l3 (by show 3 ≤ 10000; omega) hx
      have HTX := Lib.hid (fun (x : ByteArray) (W : World) (hx : x.size + m.pay.size ≤ 900000000) => LayText_any x m.pay W hx)
      have hla := flA_len m.ats.toList
      have HR1 := Lib.hid (fun (x : ByteArray) (W : World) (hx : x.size ≤ 900000000) (h : RdI W.heap.size W A (flA m.ats.toList).toArray) => LayRow_any x A c (flA m.ats.toList).toArray W h hok.la (by simp at *; omega) hx)
      have HR2 := Lib.hid (fun (x : ByteArray) (W : World) (hx : x.size ≤ 900000000) (h : RdI W.heap.size W m.mA m.mks) => LayRow_any x m.mA m.mC m.mks W h hok.lm (by have := hok.mks; omega) hx)
      have l8 : ((nats (m8 m)).flatMap numB).length ≤ 72 := by have := flat_len _ hok.l8.nats; rw [nats_len] at this; exact this
      have l3 : ((nats (m3 m)).flatMap numB).length ≤ 27 := by have := flat_len _ hok.l3.nats; rw [nats_len] at this; exact this
      have hsp := hok.pay
      have lt : (textB m.pay.data.toList).length ≤ 309 := by have := numB_len m.pay.size (by omega); simp [textB] at *; omega
      have lr : (rowB (nats (flA m.ats.toList).toArray)).length ≤ 4000 := by
        have h9 := numB_len (flA m.ats.toList).toArray.size (by simp at *; omega)
        have hrl := flat_len _ hok.la.nats
        rw [nats_len] at hrl
        unfold rowB
        rw [List.length_append, nats_len]
        simp at *
        omega
      have HMB : Hid ((⟨(msgB m).toArray⟩ : ByteArray) = ⟨#[]⟩ ++ ⟨((nats (m8 m)).flatMap numB).toArray⟩ ++ ⟨(textB m.pay.data.toList).toArray⟩ ++ ⟨((nats (m3 m)).flatMap numB).toArray⟩ ++ ⟨(rowB (nats (flA m.ats.toList).toArray)).toArray⟩ ++ ⟨(rowB (nats m.mks)).toArray⟩) := by
        have e0 : (⟨(msgB m).toArray⟩ : ByteArray) = ⟨#[]⟩ ++ ⟨((nats (m8 m)).flatMap numB).toArray⟩ ++ ⟨(textB m.pay.data.toList).toArray⟩ ++ ⟨((nats (m3 m)).flatMap numB).toArray⟩ ++ ⟨(rowB (nats (flA m.ats.toList).toArray)).toArray⟩ ++ ⟨(rowB (nats m.mks)).toArray⟩ := by
          apply ByteArray.ext
          simp [msgB]
        exact e0
      have b8 : (⟨((nats (m8 m)).flatMap numB).toArray⟩ : ByteArray).size ≤ 72 := by rw [str_size]; exact l8
      have b3 : (⟨((nats (m3 m)).flatMap numB).toArray⟩ : ByteArray).size ≤ 27 := by rw [str_size]; exact l3
      have bt : (⟨(textB m.pay.data.toList).toArray⟩ : ByteArray).size ≤ 309 := by rw [str_size]; exact lt
      have br : (⟨(rowB (nats (flA m.ats.toList).toArray)).toArray⟩ : ByteArray).size ≤ 4000 := by rw [str_size]; exact lr
      generalize (⟨((nats (m8 m)).flatMap numB).toArray⟩ : ByteArray) = y8 at HN8 HMB b8
      generalize (⟨((nats (m3 m)).flatMap numB).toArray⟩ : ByteArray) = y3 at HN3 HMB b3
      generalize (⟨(textB m.pay.data.toList).toArray⟩ : ByteArray) = yt at HTX HMB bt
      generalize (⟨(rowB (nats (flA m.ats.toList).toArray)).toArray⟩ : ByteArray) = yr at HR1 HMB br
      generalize (⟨(rowB (nats m.mks)).toArray⟩ : ByteArray) = ym at HR2 HMB
      have HRMK := Lib.hid ((HRM.out.rm.below HB1.out).mono HB1.out.size)
      unfold outV at HN8 HN3 HTX HR1 HR2
      obtain ⟨c0, -, c1, -, c2, -, c3, -, c4, -, c5, -, c6, -, c7, -, -, -, -, -, -, -, c11, -, -, -, -, -⟩ := cells14 (HQ.out wr (Below.refl _ _))
      have zr : w.heap.size < wr.heap.size := by omega
      have hc8 : (⟨#[]⟩ : ByteArray) ++ y8 = y8 := by apply ByteArray.ext; simp
      rw [hc8] at HN8 HMB
      clear hc8 hown hrd hB hok hla l8 l3 lt lr et p11 hlt
      go_wp2_with fail
      refine (HN8.out _ _ (heap_new _ _)).mono ?_
      rintro e w5 ⟨rfl, hb5⟩
      have HB5 := Lib.hid (belStep (bel1 wr _) hb5)
      clear hb5 c0 c1 c2 c3 c4 c5 c6 c7 c11
      go_upto_region 10 with (fail)
      have hz5 : w.heap.size < w5.heap.size := Nat.lt_of_lt_of_le zr HB5.out.size
      generalize hW0 : w5.alloc (.cells #[.string y8, .string ⟨#[]⟩, .int .i64 0] 84) = w0 at *
      have KO : Hid (w0.heap[w5.heap.size]? = some (.cells #[.string y8, .string ⟨#[]⟩, .int .i64 0] 84 (0, 0))) := by show _ = _; rw [← hW0]; exact heap_new w5 _
      have B0 : Hid (Below wr.heap.size wr w0) := by show Below _ _ _; rw [← hW0]; exact belAlloc HB5.out _
      clear hW0
      have KS : Hid (∀ W, Below w0.heap.size w0 W → W.cell? ⟨w5.heap.size, 0, none⟩ = some (.string y8) ∧ W.cell? ⟨w5.heap.size, 1, none⟩ = some (.string ⟨#[]⟩) ∧ W.cell? ⟨w5.heap.size, 2, none⟩ = some (.int .i64 0) ∧ W.cell? ⟨w.heap.size, 8, none⟩ = some (.string m.pay) ∧ W.cell? ⟨w.heap.size, 9, none⟩ = some (.int .i64 m.lo) ∧ W.cell? ⟨w.heap.size, 10, none⟩ = some (.int .i64 m.hi) ∧ W.cell? ⟨w.heap.size, 13, none⟩ = some (.int .i64 m.dn)) := fun W hb => by
        have k1 := (hb.block _ (lt_of_heap KO.out)).trans KO.out
        have k2 := HQ.out W (belStep B0.out hb)
        exact ⟨by rw [heap_cell k1]; rfl, by rw [heap_cell k1]; rfl, by rw [heap_cell k1]; rfl, by rw [heap_cell k2]; rfl, by rw [heap_cell k2]; rfl, by rw [heap_cell k2]; rfl, by rw [heap_cell k2]; rfl⟩
      refine wp_region_E (S := fun W => W.cell? ⟨w5.heap.size, 0, none⟩ = some (.string y8) ∧ W.cell? ⟨w5.heap.size, 1, none⟩ = some (.string ⟨#[]⟩) ∧ W.cell? ⟨w5.heap.size, 2, none⟩ = some (.int .i64 0) ∧ W.cell? ⟨w.heap.size, 8, none⟩ = some (.string m.pay) ∧ W.cell? ⟨w.heap.size, 9, none⟩ = some (.int .i64 m.lo) ∧ W.cell? ⟨w.heap.size, 10, none⟩ = some (.int .i64 m.hi) ∧ W.cell? ⟨w.heap.size, 13, none⟩ = some (.int .i64 m.dn)) (by kernel_rfl) ?_
      have hS := KS.out w0.drew (Below.refl _ _).drew
      refine wpAnyE_take (i := 0) (v := ?_) rfl (by kernel_rfl) (by kernel_rfl) (by kernel_rfl) (fun _ _ _ h => h) (Or.inl ⟨by rfl, ?_⟩) hS ?_
      rotate_left
      · (intro W hW; (try dsimp only at hW); go_simp; with_reducible rfl)
      simp only [Act.put, List.setIfInBounds_toArray]
      refine wpAnyE_take (i := 1) (v := ?_) rfl (by kernel_rfl) (by kernel_rfl) (by kernel_rfl) (fun _ _ _ h => h) (Or.inl ⟨by rfl, ?_⟩) hS ?_
      rotate_left
      · (intro W hW; (try dsimp only at hW); go_simp; with_reducible rfl)
      simp only [Act.put]
      refine wpAnyE_take (i := 2) (v := ?_) rfl (by kernel_rfl) (by kernel_rfl) (by kernel_rfl) (fun _ _ _ h => h) (Or.inl ⟨by rfl, ?_⟩) hS ?_
      rotate_left
      · (intro W hW; (try dsimp only at hW); go_simp; with_reducible rfl)
      simp only [Act.put]
      refine wpAnyE_take (i := 4) (v := ?_) rfl (by kernel_rfl) (by kernel_rfl) (by kernel_rfl) (fun _ _ _ h => h) (Or.inl ⟨by rfl, ?_⟩) hS ?_
      rotate_left
      · (intro W hW; (try dsimp only at hW); go_simp; with_reducible rfl)
      simp only [Act.put]
      refine wpAnyE_take (i := 5) (v := ?_) rfl (by kernel_rfl) (by kernel_rfl) (by kernel_rfl) (fun _ _ _ h => h) (Or.inl ⟨by rfl, ?_⟩) hS ?_
      rotate_left
      · (intro W hW; (try dsimp only at hW); go_simp; with_reducible rfl)
      simp only [Act.put]
      refine wpAnyE_take (i := 6) (v := ?_) rfl (by kernel_rfl) (by kernel_rfl) (by kernel_rfl) (fun _ _ _ h => h) (Or.inl ⟨by rfl, ?_⟩) hS ?_
      rotate_left
      · (intro W hW; (try dsimp only at hW); go_simp; with_reducible rfl)
      simp only [Act.put]
      refine wpAnyE_take (i := 7) (v := ?_) rfl (by kernel_rfl) (by kernel_rfl) (by kernel_rfl) (fun _ _ _ h => h) (Or.inl ⟨by rfl, ?_⟩) hS ?_
      rotate_left
      · (intro W hW; (try dsimp only at hW); go_simp; with_reducible rfl)
      simp only [Act.put]
      refine wpAnyE_take (i := 8) (v := ?_) rfl (by kernel_rfl) (by kernel_rfl) (by kernel_rfl) (fun _ _ _ h => h) (Or.inl ⟨by rfl, ?_⟩) hS ?_
      rotate_left
      · (intro W hW; (try dsimp only at hW); go_simp; with_reducible rfl)
      simp only [Act.put]
      refine wpAnyE_take (i := 9) (v := ?_) rfl (by kernel_rfl) (by kernel_rfl) (by kernel_rfl) (fun _ _ _ h => h) (Or.inl ⟨by rfl, ?_⟩) hS ?_
      rotate_left
      · (intro W hW; (try dsimp only at hW); go_simp; with_reducible rfl)
      simp only [Act.put]
      refine wpAnyE_ready (rs := [3, 10]) (by kernel_rfl) (by simp) (AllReadyE.cons rfl (fun K hK => ?_) (AllReadyE.cons rfl (fun K hK => ?_) AllReadyE.nil))
      · go_simp
        refine (HTX.out y8 _ (by omega)).mono ?_
        rintro e w6 ⟨rfl, hb6⟩
        have B6 := Lib.hid (belStep (Below.refl _ _).drew hb6)
        clear hb6
        refine hK.out _ _ (KS.out _ B6.out) (fun _ => ?_)
        clear hK K
        refine wpAnyE_ready (rs := [10]) (by kernel_rfl) (by simp) (AllReadyE.cons rfl (fun K hK => ?_) AllReadyE.nil)
        go_simp
        refine hK.out _ _ (KS.out _ (belAlloc B6.out _)) (fun _ => ?_)
        clear hK K
        refine wpAnyE_ready (rs := [11]) (by kernel_rfl) (by simp) (AllReadyE.cons rfl (fun K hK => ?_) AllReadyE.nil)
        go_simp
        refine (HN3.out (y8 ++ yt) _ _ (by rw [ByteArray.size_append]; omega) (heap_new _ _)).mono ?_
        rintro e w7 ⟨rfl, hb7⟩
        have B7 := Lib.hid (belStep (belAlloc B6.out _) hb7)
        clear hb7
        refine hK.out _ _ (KS.out _ B7.out) (fun _ => ?_)
        clear hK K
        have O7 := Lib.hid ((B7.out.block _ (lt_of_heap KO.out)).trans KO.out)
        obtain ⟨o0, o1, o2, g0, g1, g2⟩ := cells3 O7.out
        refine wpAnyE_ready (rs := [12]) (by kernel_rfl) (by simp) (AllReadyE.last rfl (by kernel_rfl) (fun K hK => ?_))
        go_simp
        refine hK.out _ _ ?_
        clear hK K o0 o1 o2 g0 g1 g2
        refine wpAnyE_done (by kernel_rfl) ?_ _
        have OZ := Lib.hid (heap3 O7.out (.string (y8 ++ yt ++ y3)) (.string ⟨#[]⟩) (.int .i64 0))
        have BZ := Lib.hid (bel3 (belStep B0.out B7.out) HB5.out.size (.string (y8 ++ yt ++ y3)) (.string ⟨#[]⟩) (.int .i64 0))
        generalize (((w7.setCell ⟨w5.heap.size, 0, none⟩ (.string (y8 ++ yt ++ y3))).setCell ⟨w5.heap.size, 1, none⟩ (.string ⟨#[]⟩)).setCell ⟨w5.heap.size, 2, none⟩ (.int .i64 0)) = wZ at OZ BZ ⊢
        clear B6 B7 O7
        have KX : Hid (∀ W, Below wZ.heap.size wZ W → W.cell? ⟨w5.heap.size, 0, none⟩ = some (.string (y8 ++ yt ++ y3)) ∧ W.cell? ⟨w5.heap.size, 1, none⟩ = some (.string ⟨#[]⟩) ∧ W.cell? ⟨w5.heap.size, 2, none⟩ = some (.int .i64 0) ∧ W.cell? ⟨w.heap.size, 12, none⟩ = some (.slice m.mA m.mks.size m.mC)) := fun W hb => by
          have k1 := (hb.block _ (lt_of_heap OZ.out)).trans OZ.out
          have k2 := HQ.out W (belStep BZ.out hb)
          exact ⟨by rw [heap_cell k1]; rfl, by rw [heap_cell k1]; rfl, by rw [heap_cell k1]; rfl, by rw [heap_cell k2]; rfl⟩
        go_wp2_with fail
        refine wp_region_E (S := fun W => W.cell? ⟨w5.heap.size, 0, none⟩ = some (.string (y8 ++ yt ++ y3)) ∧ W.cell? ⟨w5.heap.size, 1, none⟩ = some (.string ⟨#[]⟩) ∧ W.cell? ⟨w5.heap.size, 2, none⟩ = some (.int .i64 0) ∧ W.cell? ⟨w.heap.size, 12, none⟩ = some (.slice m.mA m.mks.size m.mC)) (by kernel_rfl) ?_
        have hS := KX.out wZ.drew (Below.refl _ _).drew
        refine wpAnyE_take (i := 0) (v := ?_) rfl (by kernel_rfl) (by kernel_rfl) (by kernel_rfl) (fun _ _ _ h => h) (Or.inl ⟨by rfl, ?_⟩) hS ?_
        rotate_left
        · (intro W hW; (try dsimp only at hW); go_simp; with_reducible rfl)
        simp only [Act.put, List.setIfInBounds_toArray]
        refine wpAnyE_take (i := 1) (v := ?_) rfl (by kernel_rfl) (by kernel_rfl) (by kernel_rfl) (fun _ _ _ h => h) (Or.inl ⟨by rfl, ?_⟩) hS ?_
        rotate_left
        · (intro W hW; (try dsimp only at hW); go_simp; with_reducible rfl)
        simp only [Act.put]
        refine wpAnyE_take (i := 3) (v := ?_) rfl (by kernel_rfl) (by kernel_rfl) (by kernel_rfl) (fun _ _ _ h => h) (Or.inl ⟨by rfl, ?_⟩) hS ?_
        rotate_left
        · (intro W hW; (try dsimp only at hW); go_simp; with_reducible rfl)
        simp only [Act.put]
        refine wpAnyE_take (i := 4) (v := ?_) rfl (by kernel_rfl) (by kernel_rfl) (by kernel_rfl) (fun _ _ _ h => h) (Or.inl ⟨by rfl, ?_⟩) hS ?_
        rotate_left
        · (intro W hW; (try dsimp only at hW); go_simp; with_reducible rfl)
        simp only [Act.put]
        refine wpAnyE_ready (rs := [2]) (by kernel_rfl) (by simp) (AllReadyE.cons rfl (fun K hK => ?_) AllReadyE.nil)
        go_simp
        have hyz : (y8 ++ yt ++ y3).size ≤ 1000 := by rw [ByteArray.size_append, ByteArray.size_append]; omega
        have HR1Z := Lib.hid (HR1.out (y8 ++ yt ++ y3) wZ.drew (by omega) ((HRL.out.below (BZ.out.trans (Below.refl _ _).drew)).mono (by have := BZ.out.size; simpa using this)))
        rw [List.size_toArray] at HR1Z
        refine HR1Z.out.mono ?_
        rintro e w8 ⟨rfl, hb8⟩
        have B8 := Lib.hid (belStep (Below.refl _ _).drew hb8)
        clear hb8
        refine hK.out _ _ (KX.out _ B8.out) (fun _ => ?_)
        clear hK K
        refine wpAnyE_ready (rs := [5]) (by kernel_rfl) (by simp) (AllReadyE.cons rfl (fun K hK => ?_) AllReadyE.nil)
        go_simp
        have BW8 := Lib.hid (belStep BZ.out B8.out)
        have hw8 : w.heap.size ≤ w8.heap.size := by have := BW8.out.size; omega
        refine (HR2.out (y8 ++ yt ++ y3 ++ yr) w8 (by rw [ByteArray.size_append]; omega) ((HRMK.out.below (HBr.out.trans (BW8.out.mono hzr))).mono (by have := BW8.out.size; omega))).mono ?_
        rintro e w9 ⟨rfl, hb9⟩
        have B9 := Lib.hid (belStep B8.out hb9)
        clear hb9
        refine hK.out _ _ (KX.out _ B9.out) (fun _ => ?_)
        clear hK K
        have O9 := Lib.hid ((B9.out.block _ (lt_of_heap OZ.out)).trans OZ.out)
        obtain ⟨o0, o1, o2, g0, g1, g2⟩ := cells3 O9.out
        refine wpAnyE_ready (rs := [6]) (by kernel_rfl) (by simp) (AllReadyE.last rfl (by kernel_rfl) (fun K hK => ?_))
        go_simp
        refine hK.out _ _ ?_
        clear hK K o0 o1 o2 g0 g1 g2
        refine wpAnyE_done (by kernel_rfl) ?_ _
        have OF := Lib.hid (heap3 O9.out (.string (y8 ++ yt ++ y3 ++ yr ++ ym)) (.string ⟨#[]⟩) (.int .i64 0))
        have BF := Lib.hid (bel3 (belStep BZ.out B9.out) HB5.out.size (.string (y8 ++ yt ++ y3 ++ yr ++ ym)) (.string ⟨#[]⟩) (.int .i64 0))
        generalize (((w9.setCell ⟨w5.heap.size, 0, none⟩ (.string (y8 ++ yt ++ y3 ++ yr ++ ym))).setCell ⟨w5.heap.size, 1, none⟩ (.string ⟨#[]⟩)).setCell ⟨w5.heap.size, 2, none⟩ (.int .i64 0)) = wF at OF BF ⊢
        obtain ⟨o0, -, -, -, -, -⟩ := cells3 OF.out
        go_wp2
        go_ret2
        refine ⟨by rw [HMB.out]; rfl, ?_⟩
        exact belStep HB1.out (HBr.out.trans (BF.out.mono hzr))
      · go_simp
        refine hK.out _ _ (KS.out _ (belAlloc (Below.refl _ _).drew _)) (fun _ => ?_)
        clear hK K
        refine wpAnyE_ready (rs := [3]) (by kernel_rfl) (by simp) (AllReadyE.cons rfl (fun K hK => ?_) AllReadyE.nil)
        go_simp
        refine (HTX.out y8 _ (by omega)).mono ?_
        rintro e w6 ⟨rfl, hb6⟩
        have B6 := Lib.hid (belStep (bel1 w0 _).drew hb6)
        have S6 : Hid (w6.heap[w0.heap.size]? = some (.cells #[.int .i64 m.lo, .int .i64 m.hi, .int .i64 m.dn] 3 (0, 0))) := (hb6.block _ (by simp)).trans (hA1 w0 _)
        clear hb6
        refine hK.out _ _ (KS.out _ B6.out) (fun _ => ?_)
        clear hK K
        refine wpAnyE_ready (rs := [11]) (by kernel_rfl) (by simp) (AllReadyE.cons rfl (fun K hK => ?_) AllReadyE.nil)
        go_simp
        refine (HN3.out (y8 ++ yt) w6 w0.heap.size (by rw [ByteArray.size_append]; omega) S6.out).mono ?_
        rintro e w7 ⟨rfl, hb7⟩
        have B7 := Lib.hid (belStep B6.out hb7)
        clear hb7
        refine hK.out _ _ (KS.out _ B7.out) (fun _ => ?_)
        clear hK K
        have O7 := Lib.hid ((B7.out.block _ (lt_of_heap KO.out)).trans KO.out)
        obtain ⟨o0, o1, o2, g0, g1, g2⟩ := cells3 O7.out
        refine wpAnyE_ready (rs := [12]) (by kernel_rfl) (by simp) (AllReadyE.last rfl (by kernel_rfl) (fun K hK => ?_))
        go_simp
        refine hK.out _ _ ?_
        clear hK K o0 o1 o2 g0 g1 g2
        refine wpAnyE_done (by kernel_rfl) ?_ _
        have OZ := Lib.hid (heap3 O7.out (.string (y8 ++ yt ++ y3)) (.string ⟨#[]⟩) (.int .i64 0))
        have BZ := Lib.hid (bel3 (belStep B0.out B7.out) HB5.out.size (.string (y8 ++ yt ++ y3)) (.string ⟨#[]⟩) (.int .i64 0))
        generalize (((w7.setCell ⟨w5.heap.size, 0, none⟩ (.string (y8 ++ yt ++ y3))).setCell ⟨w5.heap.size, 1, none⟩ (.string ⟨#[]⟩)).setCell ⟨w5.heap.size, 2, none⟩ (.int .i64 0)) = wZ at OZ BZ ⊢
        clear B6 B7 O7
        have KX : Hid (∀ W, Below wZ.heap.size wZ W → W.cell? ⟨w5.heap.size, 0, none⟩ = some (.string (y8 ++ yt ++ y3)) ∧ W.cell? ⟨w5.heap.size, 1, none⟩ = some (.string ⟨#[]⟩) ∧ W.cell? ⟨w5.heap.size, 2, none⟩ = some (.int .i64 0) ∧ W.cell? ⟨w.heap.size, 12, none⟩ = some (.slice m.mA m.mks.size m.mC)) := fun W hb => by
          have k1 := (hb.block _ (lt_of_heap OZ.out)).trans OZ.out
          have k2 := HQ.out W (belStep BZ.out hb)
          exact ⟨by rw [heap_cell k1]; rfl, by rw [heap_cell k1]; rfl, by rw [heap_cell k1]; rfl, by rw [heap_cell k2]; rfl⟩
        go_wp2_with fail
        refine wp_region_E (S := fun W => W.cell? ⟨w5.heap.size, 0, none⟩ = some (.string (y8 ++ yt ++ y3)) ∧ W.cell? ⟨w5.heap.size, 1, none⟩ = some (.string ⟨#[]⟩) ∧ W.cell? ⟨w5.heap.size, 2, none⟩ = some (.int .i64 0) ∧ W.cell? ⟨w.heap.size, 12, none⟩ = some (.slice m.mA m.mks.size m.mC)) (by kernel_rfl) ?_
        have hS := KX.out wZ.drew (Below.refl _ _).drew
        refine wpAnyE_take (i := 0) (v := ?_) rfl (by kernel_rfl) (by kernel_rfl) (by kernel_rfl) (fun _ _ _ h => h) (Or.inl ⟨by rfl, ?_⟩) hS ?_
        rotate_left
        · (intro W hW; (try dsimp only at hW); go_simp; with_reducible rfl)
        simp only [Act.put, List.setIfInBounds_toArray]
        refine wpAnyE_take (i := 1) (v := ?_) rfl (by kernel_rfl) (by kernel_rfl) (by kernel_rfl) (fun _ _ _ h => h) (Or.inl ⟨by rfl, ?_⟩) hS ?_
        rotate_left
        · (intro W hW; (try dsimp only at hW); go_simp; with_reducible rfl)
        simp only [Act.put]
        refine wpAnyE_take (i := 3) (v := ?_) rfl (by kernel_rfl) (by kernel_rfl) (by kernel_rfl) (fun _ _ _ h => h) (Or.inl ⟨by rfl, ?_⟩) hS ?_
        rotate_left
        · (intro W hW; (try dsimp only at hW); go_simp; with_reducible rfl)
        simp only [Act.put]
        refine wpAnyE_take (i := 4) (v := ?_) rfl (by kernel_rfl) (by kernel_rfl) (by kernel_rfl) (fun _ _ _ h => h) (Or.inl ⟨by rfl, ?_⟩) hS ?_
        rotate_left
        · (intro W hW; (try dsimp only at hW); go_simp; with_reducible rfl)
        simp only [Act.put]
        refine wpAnyE_ready (rs := [2]) (by kernel_rfl) (by simp) (AllReadyE.cons rfl (fun K hK => ?_) AllReadyE.nil)
        go_simp
        have hyz : (y8 ++ yt ++ y3).size ≤ 1000 := by rw [ByteArray.size_append, ByteArray.size_append]; omega
        have HR1Z := Lib.hid (HR1.out (y8 ++ yt ++ y3) wZ.drew (by omega) ((HRL.out.below (BZ.out.trans (Below.refl _ _).drew)).mono (by have := BZ.out.size; simpa using this)))
        rw [List.size_toArray] at HR1Z
        refine HR1Z.out.mono ?_
        rintro e w8 ⟨rfl, hb8⟩
        have B8 := Lib.hid (belStep (Below.refl _ _).drew hb8)
        clear hb8
        refine hK.out _ _ (KX.out _ B8.out) (fun _ => ?_)
        clear hK K
        refine wpAnyE_ready (rs := [5]) (by kernel_rfl) (by simp) (AllReadyE.cons rfl (fun K hK => ?_) AllReadyE.nil)
        go_simp
        have BW8 := Lib.hid (belStep BZ.out B8.out)
        have hw8 : w.heap.size ≤ w8.heap.size := by have := BW8.out.size; omega
        refine (HR2.out (y8 ++ yt ++ y3 ++ yr) w8 (by rw [ByteArray.size_append]; omega) ((HRMK.out.below (HBr.out.trans (BW8.out.mono hzr))).mono (by have := BW8.out.size; omega))).mono ?_
        rintro e w9 ⟨rfl, hb9⟩
        have B9 := Lib.hid (belStep B8.out hb9)
        clear hb9
        refine hK.out _ _ (KX.out _ B9.out) (fun _ => ?_)
        clear hK K
        have O9 := Lib.hid ((B9.out.block _ (lt_of_heap OZ.out)).trans OZ.out)
        obtain ⟨o0, o1, o2, g0, g1, g2⟩ := cells3 O9.out
        refine wpAnyE_ready (rs := [6]) (by kernel_rfl) (by simp) (AllReadyE.last rfl (by kernel_rfl) (fun K hK => ?_))
        go_simp
        refine hK.out _ _ ?_
        clear hK K o0 o1 o2 g0 g1 g2
        refine wpAnyE_done (by kernel_rfl) ?_ _
        have OF := Lib.hid (heap3 O9.out (.string (y8 ++ yt ++ y3 ++ yr ++ ym)) (.string ⟨#[]⟩) (.int .i64 0))
        have BF := Lib.hid (bel3 (belStep BZ.out B9.out) HB5.out.size (.string (y8 ++ yt ++ y3 ++ yr ++ ym)) (.string ⟨#[]⟩) (.int .i64 0))
        generalize (((w9.setCell ⟨w5.heap.size, 0, none⟩ (.string (y8 ++ yt ++ y3 ++ yr ++ ym))).setCell ⟨w5.heap.size, 1, none⟩ (.string ⟨#[]⟩)).setCell ⟨w5.heap.size, 2, none⟩ (.int .i64 0)) = wF at OF BF ⊢
        obtain ⟨o0, -, -, -, -, -⟩ := cells3 OF.out
        go_wp2
        go_ret2
        refine ⟨by rw [HMB.out]; rfl, ?_⟩
        exact belStep HB1.out (HBr.out.trans (BF.out.mono hzr))
end Go.Proofs.YtlpplnmmcgdooaaGreatDoor
