/- A replica is laid: image.Put, image.Size. image.Size; rubatoref36.atts, rubatoref36.spans: pairs as a row of numbers. -/
import Derived.Test.YtnmojicfmcbgmaaGreatDoorQImA
import Derived.Test.YtnmojicfmcbgmaaGreatDoorQDrw
namespace Go.Proofs.YtnmojicfmcbgmaaGreatDoor
open Go.RowKit Go.Sort Go.Lib Nb
set_option maxRecDepth 100000
attribute [local go_sem ↓] execOp_loadRep execOp_storeRep
attribute [local go_sem] run_loadBox run_storeBox_new
def imageS : ByteArray := ⟨#[105, 109, 97, 103, 101]⟩
/-- What image.Put tells. -/
def PutP (r : RP) (e : Ending) (w' : World) : Prop := (putE r = 0 ∧ e = .returned (.tuple #[.string ⟨(bytesR r).toArray⟩, .nilIface])) ∨ (putE r ≠ 0 ∧ ∃ v, e = .returned (.tuple #[.string ⟨#[]⟩, v]) ∧ Chain w' [imageS] (putE r) v)
theorem lit10 (r : RP) : (n10 r).length = 10 := rfl
theorem bytes_pos (r : RP) : bytesR r ≠ [] := by
  intro h
  have h1 : numB r.n.toNat = [] := by
    unfold bytesR at h
    simp only [List.append_eq_nil_iff] at h
    have := h.1.1.1.1
    unfold n10 at this
    simp only [List.map_cons, List.flatMap_cons, List.append_eq_nil_iff] at this
    exact this.1
  have := numB_pos r.n.toNat
  rw [h1] at this
  exact absurd this (by decide)
theorem hear_len {r : RP} (h : HearB r) : (hearL r).length ≤ 2000000 := by
  have h1 := flat_bd (z := r.k.z) (f := knB) (fun x hx => knB_len (h.k x hx)) r.k.z.size (Nat.le_refl _)
  have h2 := flat_bd (z := r.m.z) (f := fun x => rowB (intM x.z).flatten) (C := 10000) (fun x hx => rowI_len (h.m x hx).1 (h.m x hx).2) r.m.z.size (Nat.le_refl _)
  have h3 := flat_bd (z := r.d.z) (f := fun x => rowB (pairM x.z).flatten) (C := 20000) (fun x hx => rowP_len (h.d x hx).1 (h.d x hx).2) r.d.z.size (Nat.le_refl _)
  have h4 := rowI_len h.fr.1 h.fr.2
  rw [List.take_of_length_le (by simp)] at h1 h2 h3
  have k1 : r.k.z.size * 50000 ≤ 20 * 50000 := Nat.mul_le_mul_right _ h.kn
  have k2 : r.m.z.size * 10000 ≤ 20 * 10000 := Nat.mul_le_mul_right _ h.mn
  have k3 : r.d.z.size * 20000 ≤ 20 * 20000 := Nat.mul_le_mul_right _ h.dn
  unfold hearL
  rw [List.length_append, List.length_append, List.length_append]
  omega
theorem cmds_len {z : Array EN} (h : ∀ x ∈ z.toList, EntB x) (hs : z.size ≤ 100) : ((enC.list 1000 (by decide)).b (z.toList.map entM)).length ≤ 1000010 := by
  have h1 := entsB_len h z.size (Nat.le_refl _)
  unfold entsB at h1
  rw [List.take_of_length_le (by simp)] at h1
  have h2 := numB_len z.size (by omega)
  have e : (enC.list 1000 (by decide)).b (z.toList.map entM) = numB z.size ++ z.toList.flatMap (fun e => enC.b (entM e)) := by
    show numB (z.toList.map entM).length ++ (z.toList.map entM).flatMap enC.b = _
    rw [List.flatMap_map, List.length_map, Array.length_toList]
  rw [e, List.length_append]
  have : z.size * 10000 ≤ 100 * 10000 := Nat.mul_le_mul_right _ hs
  omega
set_option maxHeartbeats 16000000 in
theorem imPut_any (r : RP) (w : World) (h : RdP w r) (hf : FewC r) :
    Calls Tryz.prog 8 #[.agg (encP r).toArray] w fun e w' => PutP r e w' ∧ Below w.heap.size w w' := by
  have HC : Hid (∀ W, Below w.heap.size w W → Calls Tryz.prog 16 #[.agg (encP r).toArray] W fun e w' => e = .returned (.int .i64 (repW r)) ∧ Below W.heap.size W w') := fun W hb => repCheck_any r W (h.below hb) hf
  have HWD : Hid (∀ W, Below w.heap.size w W → Calls Tryz.prog 21 #[.agg (encP r).toArray] W fun e w' => e = .returned (.bool (wideB r)) ∧ Below W.heap.size W w') := fun W hb => imWide_any r W (h.below hb) (by have := hf.k; omega) (by have := hf.d; omega)
  have HR := Lib.hid h
  have HLY := Lib.hid (@lay_of r)
  have HPE : Hid (putE r = if chkW r = true then (if wideB r = true then 3 else if 18000 < (bytesR r).length then 3 else 0) else 2) := rfl
  have HRW : Hid (repW r = if chkW r = true then 0 else 2) := rfl
  obtain ⟨g1, hg1⟩ : ∃ g, chkW r = g := ⟨_, rfl⟩
  obtain ⟨g2, hg2⟩ : ∃ g, wideB r = g := ⟨_, rfl⟩
  rw [hg1, hg2] at HPE
  rw [HRW.out, hg1] at HC
  rw [hg2] at HWD
  rw [hg1, hg2] at HLY
  obtain ⟨cs, hcs⟩ : ∃ cs, cs = (encP r).toArray := ⟨_, rfl⟩
  have HI : cs.size = 18 := by rw [hcs]; rfl
  have HCS := Lib.hid hcs
  rw [← hcs] at HC HWD
  clear h hf hg1 hg2 HRW
  have hgoal : ∀ y : Array Value, cs = y → Calls Tryz.prog 8 #[.agg y] w fun e w' => PutP r e w' ∧ Below w.heap.size w w' := by
    rintro _ rfl
    simp only [encP] at hcs
    have HX := Lib.hid (BoxR.init w cs 35)
    have x1 := HX.out.box HI
    have x2 := HX.out.rowAt
    cases g1
    · simp only [Bool.false_eq_true, if_false] at HC HPE
      rw [hcs]
      go_enter Tryz.func8, Tryz.ntmps8
      rw [← hcs]
      clear hcs
      go_wp2_with fail
      refine (HC.out _ HX.out.b).mono ?_
      rintro _ w1 ⟨rfl, hb1⟩
      have HX := Lib.hid (HX.out.next hb1)
      clear hb1 x1 x2
      go_wp2_with fail
      refine (New_any imageS 2 _ (by decide)).mono ?_
      rintro _ w2 ⟨v, rfl, hch, hb2⟩
      have HX := Lib.hid (HX.out.next hb2)
      have HCH := Lib.hid hch
      clear hb2 hch
      go_wp2
      go_ret2
      exact ⟨Or.inr ⟨by rw [HPE.out]; decide, v, rfl, by rw [HPE.out]; exact HCH.out⟩, HX.out.b⟩
    simp only [if_true] at HC HPE
    rw [hcs]
    go_enter Tryz.func8, Tryz.ntmps8
    rw [← hcs]
    clear hcs
    go_wp2_with fail
    refine (HC.out _ HX.out.b).mono ?_
    rintro _ w1 ⟨rfl, hb1⟩
    have HX := Lib.hid (HX.out.next hb1)
    clear hb1 x1 x2
    have x1 := HX.out.box HI
    have x2 := HX.out.rowAt
    go_wp2_with fail
    refine (HWD.out _ HX.out.b).mono ?_
    rintro _ w2 ⟨rfl, hb2⟩
    have HX := Lib.hid (HX.out.next hb2)
    clear hb2 x1 x2
    cases g2
    rotate_left
    · simp only [if_true] at HPE
      go_wp2_with fail
      refine (New_any imageS 3 _ (by decide)).mono ?_
      rintro _ w3 ⟨v, rfl, hch, hb3⟩
      have HX := Lib.hid (HX.out.next hb3)
      have HCH := Lib.hid hch
      clear hb3 hch
      go_wp2
      go_ret2
      exact ⟨Or.inr ⟨by rw [HPE.out]; decide, v, rfl, by rw [HPE.out]; exact HCH.out⟩, HX.out.b⟩
    simp only [Bool.false_eq_true, if_false] at HPE
    have HL : Hid (LayB r) := Lib.hid (HLY.out (by trivial) (by trivial))
    have hW0 : WW w2 w2.heap.size [] (w2.alloc (.cells #[.pointer none, .slice none 0 0, .nilIface] 65)) := ⟨Wrt.new w2, bel1 w2 _⟩
    have HXa := Lib.hid (HX.out.next (bel1 w2 (.cells #[.pointer none, .slice none 0 0, .nilIface] 65)))
    have HR2 := Lib.hid (HR.out.below HX.out.b)
    have c0 := HXa.out.at_ 0 (v := .int .i64 r.n) (by rw [HCS.out]; rfl)
    have c1 := HXa.out.at_ 1 (v := .int .i64 r.f) (by rw [HCS.out]; rfl)
    have c2 := HXa.out.at_ 2 (v := .int .i64 r.self) (by rw [HCS.out]; rfl)
    have c3 := HXa.out.at_ 3 (v := .int .i64 r.clock) (by rw [HCS.out]; rfl)
    have c4 := HXa.out.at_ 4 (v := .int .i64 r.seq) (by rw [HCS.out]; rfl)
    have c5 := HXa.out.at_ 5 (v := .int .i64 r.floor) (by rw [HCS.out]; rfl)
    have c6 := HXa.out.at_ 6 (v := .int .i64 r.ticks) (by rw [HCS.out]; rfl)
    have c13 := HXa.out.at_ 13 (v := .int .i64 r.lt) (by rw [HCS.out]; rfl)
    have c14 := HXa.out.at_ 14 (v := .int .i64 r.lid) (by rw [HCS.out]; rfl)
    have c15 := HXa.out.at_ 15 (v := .int .i64 r.count) (by rw [HCS.out]; rfl)
    have hb3 : Below w2.heap.size w2 (((w2.alloc (.cells #[.pointer none, .slice none 0 0, .nilIface] 65))).alloc (.cells ((n10 r).map (Value.int .i64)).toArray 3)) := belAlloc (bel1 w2 _) _
    have HN := Lib.hid (wnum (w := (w2.alloc (.cells #[.pointer none, .slice none 0 0, .nilIface] 65)).alloc (.cells ((n10 r).map (Value.int .i64)).toArray 3)) (g := w2.heap.size + 1) (c := 10) (n10 r) (hW0.step (bel1 _ _)) (heap_alloc2_new w2 _ _) HL.out.n (by rw [lit10]; decide) (by simp) (by omega))
    have HXb := Lib.hid (HX.out.next hb3)
    rw [lit10] at HN
    clear hW0 hb3
    go_wp2_with fail
    refine HN.out.mono ?_
    rintro _ w3 ⟨rfl, hW3, hb3, hk3⟩
    have hn1 := nums_len HL.out.n
    rw [lit10] at hn1
    obtain ⟨l1, hl1⟩ : ∃ x, [] ++ ((n10 r).map Int.toNat).flatMap numB = x := ⟨_, rfl⟩
    have hl1s : l1.length ≤ 100 := by rw [← hl1, List.nil_append]; omega
    rw [hl1] at hW3
    have HW3 := Lib.hid hW3
    have HL1 := Lib.hid hl1
    have HX3 := Lib.hid (HX.out.next hW3.b)
    clear c0 c1 c2 c3 c4 c5 c6 c13 c14 c15 HXa HXb HN hW3 hb3 hk3 hn1 hl1
    have c7 := HX3.out.at_ 7 (v := .slice r.e.A r.e.z.size r.e.c) (by rw [HCS.out]; rfl)
    have HCM := Lib.hid (imCmds_any r.e.A r.e.c r.e.z w3 HW3.out HR2.out.e HL.out.e HL.out.es (by omega))
    go_wp2_with fail
    refine HCM.out.mono ?_
    rintro _ w4 ⟨rfl, hW4, hb4, hk4⟩
    have hn2 := cmds_len HL.out.e HL.out.es
    obtain ⟨l2, hl2⟩ : ∃ x, l1 ++ (enC.list 1000 (by decide)).b (r.e.z.toList.map entM) = x := ⟨_, rfl⟩
    have hl2s : l2.length ≤ 1000200 := by rw [← hl2, List.length_append]; omega
    rw [hl2] at hW4
    have HW4 := Lib.hid hW4
    have HL2 := Lib.hid hl2
    have HX4 := Lib.hid (HX.out.next hW4.b)
    clear c7 HCM hW4 hb4 hk4 hn2 hl2 hl1s HX3
    have c8 := HX4.out.at_ 8 (v := .slice r.o.A r.o.z.size r.o.c) (by rw [HCS.out]; rfl)
    have HRO := Lib.hid (wrowA r.o.A r.o.c r.o.z HW4.out (HR2.out.below HW4.out.b).o.rd HL.out.o.1 HL.out.o.2 (by omega))
    go_wp2_with fail
    refine HRO.out.mono ?_
    rintro _ w5 ⟨rfl, hW5, hb5, hk5⟩
    have hn3 := rowP_len HL.out.o.1 HL.out.o.2
    obtain ⟨l3, hl3⟩ : ∃ x, l2 ++ rowB (pairM r.o.z).flatten = x := ⟨_, rfl⟩
    have hl3s : l3.length ≤ 1100000 := by rw [← hl3, List.length_append]; omega
    rw [hl3] at hW5
    have HW5 := Lib.hid hW5
    have HL3 := Lib.hid hl3
    have HX5 := Lib.hid (HX.out.next hW5.b)
    clear c8 HRO hW5 hb5 hk5 hn3 hl3 hl2s HX4
    have x1 := HX5.out.box HI
    have x2 := HX5.out.rowAt
    have hhe := imHears_any r w5 HW5.out HR2.out HL.out.h (by omega)
    rw [← HCS.out] at hhe
    have HHE := Lib.hid hhe
    clear hhe
    go_wp2_with fail
    refine HHE.out.mono ?_
    rintro _ w6 ⟨rfl, hW6, hb6, hk6⟩
    have hn4 := hear_len HL.out.h
    obtain ⟨l4, hl4⟩ : ∃ x, l3 ++ hearL r = x := ⟨_, rfl⟩
    have hl4s : l4.length ≤ 3200000 := by rw [← hl4, List.length_append]; omega
    rw [hl4] at hW6
    have HW6 := Lib.hid hW6
    have HL4 := Lib.hid hl4
    have HX6 := Lib.hid (HX.out.next hW6.b)
    clear x1 x2 HHE hW6 hb6 hk6 hn4 hl4 hl3s HX5
    have c16 := HX6.out.at_ 16 (v := .slice r.it.A r.it.z.size r.it.c) (by rw [HCS.out]; rfl)
    have c17 := HX6.out.at_ 17 (v := .slice r.ss.A r.ss.z.size r.ss.c) (by rw [HCS.out]; rfl)
    have HST := Lib.hid (imStore_any r.it r.ss w6 HW6.out HR2.out.it HR2.out.ss HL.out.s (by omega))
    go_wp2_with fail
    refine HST.out.mono ?_
    rintro _ w7 ⟨rfl, hW7, hb7, hk7⟩
    have HE : Hid (l4 ++ stoL r.it.z r.ss.z = bytesR r) := by
      show _ = _
      rw [← HL4.out, ← HL3.out, ← HL2.out, ← HL1.out, List.nil_append]
      rfl
    rw [HE.out] at hW7
    have HW7 := Lib.hid hW7
    have HDN := Lib.hid (WDone_any w2.heap.size w2.heap.size (bytesR r) w7 hW7.h (bytes_pos r))
    clear c16 c17 HST hW7 hb7 hk7 hl4s HX6
    obtain ⟨y, hy⟩ : ∃ y : ByteArray, (⟨(bytesR r).toArray⟩ : ByteArray) = y := ⟨_, rfl⟩
    have hys : y.size = (bytesR r).length := by rw [← hy, str_size]
    rw [hy] at HDN
    have HY := Lib.hid hy
    clear hy
    go_wp2_with fail
    refine HDN.out.mono ?_
    rintro _ w8 ⟨rfl, hb8⟩
    have HB8 : Hid (Below w.heap.size w w8) := Lib.hid (HX.out.b.trans (((HW7.out.b.trans hb8)).mono HX.out.b.size))
    clear hb8 HDN
    by_cases hbig : 18000 < (bytesR r).length
    · rw [if_pos hbig] at HPE
      have hd : decide ((18000 : Int) < (y.size : Int)) = true := decide_eq_true (by omega)
      clear hbig hys
      go_wp2_with fail
      refine (New_any imageS 3 _ (by decide)).mono ?_
      rintro _ w9 ⟨v, rfl, hch, hb9⟩
      have HB9 := Lib.hid (belStep HB8.out hb9)
      have HCH := Lib.hid hch
      clear hb9 hch
      go_wp2
      go_ret2
      exact ⟨Or.inr ⟨by rw [HPE.out]; decide, v, rfl, by rw [HPE.out]; exact HCH.out⟩, HB9.out⟩
    · rw [if_neg hbig] at HPE
      have hd : decide ((18000 : Int) < (y.size : Int)) = false := decide_eq_false (by omega)
      clear hbig hys
      go_wp2
      go_ret2
      exact ⟨Or.inl ⟨HPE.out, by rw [HY.out]; rfl⟩, HB8.out⟩
  exact hgoal _ hcs
end Go.Proofs.YtnmojicfmcbgmaaGreatDoor
namespace Go.Proofs.YtnmojicfmcbgmaaGreatDoor
open Go.RowKit Go.Sort Go.Lib Nb
set_option maxRecDepth 100000
attribute [local go_sem ↓] execOp_loadRep execOp_storeRep
attribute [local go_sem] run_loadBox run_storeBox_new
set_option maxHeartbeats 1000000 in
theorem imSize_any (r : RP) (w : World) (h : RdP w r) (hf : FewC r) :
    Calls Tryz.prog 13 #[.agg (encP r).toArray] w fun e w' => e = .returned (.int .i64 (if putE r = 0 then ((bytesR r).length : Int) else 0)) ∧ Below w.heap.size w w' := by
  have HP : Hid (∀ W, Below w.heap.size w W → Calls Tryz.prog 8 #[.agg (encP r).toArray] W fun e w' => PutP r e w' ∧ Below W.heap.size W w') := fun W hb => imPut_any r W (h.below hb) hf
  obtain ⟨cs, hcs⟩ : ∃ cs, cs = (encP r).toArray := ⟨_, rfl⟩
  have HI : cs.size = 18 := by rw [hcs]; rfl
  rw [← hcs] at HP
  have HCS := Lib.hid hcs
  clear h hf
  have hgoal : ∀ y : Array Value, cs = y → Calls Tryz.prog 13 #[.agg y] w fun e w' => e = .returned (.int .i64 (if putE r = 0 then ((bytesR r).length : Int) else 0)) ∧ Below w.heap.size w w' := by
    rintro _ rfl
    simp only [encP] at hcs
    have HX := Lib.hid (BoxR.init w cs 35)
    have x1 := HX.out.box HI
    have x2 := HX.out.rowAt
    have HB0 := Lib.hid (HX.out.b)
    have HP1 := Lib.hid (HP.out _ HX.out.b)
    clear hcs
    go_enter Tryz.func13, Tryz.ntmps13
    go_wp2_with fail
    refine HP1.out.mono ?_
    rintro _ w2 ⟨hp, hb⟩
    have HB2 := Lib.hid (belStep HB0.out hb)
    clear hb
    rcases hp with ⟨h0, rfl⟩ | ⟨h0, v, rfl, hch⟩
    · have HE := Lib.hid h0
      obtain ⟨y, hy⟩ : ∃ y : ByteArray, (⟨(bytesR r).toArray⟩ : ByteArray) = y := ⟨_, rfl⟩
      have hys : (y.size : Int) = ((bytesR r).length : Int) := by rw [← hy, str_size]
      have HYS := Lib.hid hys
      rw [hy]
      clear hy hys h0
      go_wp2
      go_ret
      exact ⟨by rw [← HYS.out]; rfl, HB2.out⟩
    · have HE := Lib.hid h0
      clear h0 hch
      go_wp2
      go_ret
      exact ⟨rfl, HB2.out⟩
  exact hgoal _ HCS.out
end Go.Proofs.YtnmojicfmcbgmaaGreatDoor
