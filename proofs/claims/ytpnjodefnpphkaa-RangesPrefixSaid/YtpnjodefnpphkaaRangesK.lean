/- Contracts of the layer 'ranges': Less, Cut. -/
import Derived.Test.YtpnjodefnpphkaaRangesP
namespace Go.Proofs.Ytpnjodefnpphkaa
open Go.RowKit Go.Sort Go.Lib

theorem four_new (W : World) (H : Nat) (hH : W.heap.size = H) (p q r s : Value) (t : TypeId) : ∀ j u, [p, q, r, s][j]? = some u → (W.alloc (.cells #[p, q, r, s] t)).cell? ((⟨H, 0, none⟩ : Addr).add j) = some u := by
  intro j u hj
  subst hH
  rw [Addr.add_lit, Nat.zero_add, cell_new]
  rw [← hj]
  simp
theorem own_app2 {w wr w1 : World} {B : Nat} {o o' : Obj} {e : TypeId} {s n : Nat} {v : Value} {xs : List Value} (hb : Below B w wr) (hB : B ≤ wr.heap.size) (hown : wr.ownsRow B e s v n xs) (hg : ((wr.alloc o).alloc o').grownBy w1 v.ownBlock) : Below B w w1 :=
  ((hb.alloc hB o).alloc (by simp; omega) o').grown hg (by simp; omega) (fun k hk => (hown.lt k hk).1)
theorem two_set {W : World} {b : Nat} {p q u v : Value} (h0 : W.cell? ⟨b, 0, none⟩ = some p) (h1 : W.cell? ⟨b, 1, none⟩ = some q) :
    ((W.setCell ⟨b, 0, none⟩ u).setCell ⟨b, 1, none⟩ v).cell? ⟨b, 0, none⟩ = some u ∧ ((W.setCell ⟨b, 0, none⟩ u).setCell ⟨b, 1, none⟩ v).cell? ⟨b, 1, none⟩ = some v := by
  constructor
  · rw [World.cell?_setCell_other]
    · apply World.cell?_setCell_same; exact h0
    · simp
  · apply World.cell?_setCell_same (u := q)
    rw [World.cell?_setCell_other]
    · exact h1
    · simp
set_option maxRecDepth 100000 in
set_option maxHeartbeats 4000000 in
theorem gLess_any (A1 : Option Addr) (c1 : Nat) (d1 : Array (Int × Int)) (r : Int × Int) (w : World) (h1 : RdK encR 2 w.heap.size w A1 d1) :
    Calls Try.prog 37 #[.slice A1 d1.size c1, .agg #[.int .i64 r.1, .int .i64 r.2]] w fun e w' => ∃ v out, e = .returned v ∧ (setE d1 = 0 → LessOut d1 r out) ∧ (setE d1 ≠ 0 → out = #[]) ∧ w'.ownsRow w.heap.size 42 2 v out.size (flatK encR 2 out).toList ∧ Below w.heap.size w w' := by
  have r0 := Lib.hid ((h1.alloc (Nat.le_refl _) (.cells #[.int .i64 r.1, .int .i64 r.2] 42)).mono (show w.heap.size ≤ (w.alloc (.cells #[.int .i64 r.1, .int .i64 r.2] 42)).heap.size by simp))
  by_cases hs : setE d1 = 0
  · have hq : (setE d1 == 0) = true := by simp [hs]
    have hd1 := (setE_all hs).1
    have HO := Lib.hid (fun r hr => lessN_ok (r := r) hs hr d1.size (Nat.le_refl _))
    have HK := Lib.hid (fun k hk => @ok_at d1 hs k hk)
    have HS := Lib.hid hs
    obtain ⟨i0, hi0, hz0, hz1, hz2⟩ := info_parts range_info
    clear hs
    go_enter Try.func37, Try.ntmps37
    go_wp2_with fail
    refine (gmay_any _ _ d1 _ r0.out).mono ?_
    rintro e w1 ⟨rfl, hb1⟩
    have cb0 : w1.cell? ⟨w.heap.size, 0, none⟩ = some (.int .i64 r.1) := (hb1.cell (p := ⟨w.heap.size, 0, none⟩) (by simp)).trans (cell_new w #[.int .i64 r.1, .int .i64 r.2] _ 0)
    have cb1 : w1.cell? ⟨w.heap.size, 1, none⟩ = some (.int .i64 r.2) := (hb1.cell (p := ⟨w.heap.size, 1, none⟩) (by simp)).trans (cell_new w #[.int .i64 r.1, .int .i64 r.2] _ 1)
    go_wp2_with fail
    refine (held_any r _).mono ?_
    rintro e w2 ⟨rfl, hb2⟩
    have hw1 : w.heap.size < w1.heap.size := by have := hb1.size; simp at this; omega
    have blk : w2.heap[w.heap.size]? = some (.cells #[.int .i64 r.1, .int .i64 r.2] 42 (0, 0)) := (hb2.block _ hw1).trans ((hb1.block _ (by simp)).trans (heap_alloc_new w _))
    have cc0 : w2.cell? ⟨w.heap.size, 0, none⟩ = some (.int .i64 r.1) := (hb2.cell (p := ⟨w.heap.size, 0, none⟩) hw1).trans cb0
    have cc1 : w2.cell? ⟨w.heap.size, 1, none⟩ = some (.int .i64 r.2) := (hb2.cell (p := ⟨w.heap.size, 1, none⟩) hw1).trans cb1
    have cf0 : w2.frozen? ⟨w.heap.size, 0, none⟩ = false := by simp [World.frozen?, blk]
    have cf1 : w2.frozen? ⟨w.heap.size, 1, none⟩ = false := by simp [World.frozen?, blk]
    have hB2 : Below w.heap.size w w2 := belStep (belStep (bel1 _ _) hb1) hb2
    have HB2 := Lib.hid hB2
    have Z2 : Hid (w.heap.size + 1 ≤ w2.heap.size) := Nat.le_trans hw1 hb2.size
    clear cb0 cb1 blk hb1 hb2
    by_cases hh : (heldR r).2 < (heldR r).1
    · have HL : Hid (∀ out, out = d1 → LessOut d1 r out) := fun out h => by unfold LessOut; rw [if_pos hh]; exact h
      generalize heldR r = q at hh
      have hB3 : Below w.heap.size w ((w2.setCell ⟨w.heap.size, 0, none⟩ (.int .i64 q.1)).setCell ⟨w.heap.size, 1, none⟩ (.int .i64 q.2)) := (HB2.out.setCell (p := ⟨w.heap.size, 0, none⟩) (Nat.le_refl _) _).setCell (p := ⟨w.heap.size, 1, none⟩) (Nat.le_refl _) _
      have HC := Lib.hid (CloneR A1 c1 d1 _ ((h1.below hB3).mono hB3.size) (by omega))
      have HB3 := Lib.hid hB3
      clear hB3
      go_wp2_with fail
      refine HC.out.mono ?_
      rintro e w4 ⟨v, rfl, hown, hb4⟩
      go_wp2
      go_ret
      exact ⟨v, d1, rfl, fun _ => HL.out d1 rfl, fun h => absurd HS.out h, own_mono hown HB3.out.size, belStep HB3.out hb4⟩
    · have HL : Hid (∀ out, Formed (lessN d1 (heldR r) d1.size) d1 out → LessOut d1 r out) := fun out h => by unfold LessOut; rw [if_neg hh]; exact h
      have hb : 1 ≤ (heldR r).1 ∧ (heldR r).2 ≤ 1000000 := by unfold heldR; constructor <;> (simp only; omega)
      generalize heldR r = q at hh hb HL
      have hqd : decide (q.2 < q.1) = false := by simp; omega
      have hB3 : Below w.heap.size w ((w2.setCell ⟨w.heap.size, 0, none⟩ (.int .i64 q.1)).setCell ⟨w.heap.size, 1, none⟩ (.int .i64 q.2)) := (HB2.out.setCell (p := ⟨w.heap.size, 0, none⟩) (Nat.le_refl _) _).setCell (p := ⟨w.heap.size, 1, none⟩) (Nat.le_refl _) _
      have hz2 : w.heap.size + 1 ≤ w2.heap.size := by have := HB2.out.size; have := Z2.out; omega
      obtain ⟨q0, q1⟩ := two_set (u := .int .i64 q.1) (v := .int .i64 q.2) cc0 cc1
      have hz3 : w.heap.size + 1 ≤ ((w2.setCell ⟨w.heap.size, 0, none⟩ (.int .i64 q.1)).setCell ⟨w.heap.size, 1, none⟩ (.int .i64 q.2)).heap.size := by simpa [World.setCell] using hz2
      have HQ := Lib.hid hb
      go_wp2
      generalize (w2.setCell ⟨w.heap.size, 0, none⟩ (.int .i64 q.1)).setCell ⟨w.heap.size, 1, none⟩ (.int .i64 q.2) = W3 at hB3 q0 q1 hz3 ⊢
      clear cc0 cc1 cf0 cf1 hB2 hz2 hw1
      go_loopw [5, 22] (fun m i wr => ∃ k : Nat, k ≤ d1.size ∧ i = .int .i64 k ∧ wr.ownsRow (w.heap.size + 1) 42 2 m (lessN d1 q k).size (flatK encR 2 (lessN d1 q k)).toList ∧ Below (w.heap.size + 1) W3 wr) (fun _ i _ => d1.size - (intOf i).toNat)
      case atStart => exact ⟨0, Nat.zero_le _, rfl, nil_ownsK _ _ _ _ _, Below.refl _ _⟩
      case round =>
        obtain ⟨k, hk, rfl, hown, hb⟩ := hrel
        have ms : (lessN d1 q k).size ≤ 2 * k := Nat.le_of_eq (lessN_size d1 q k)
        have hBw : Below w.heap.size w wr := hB3.trans (hb.mono (by omega))
        have hzr : w.heap.size + 1 ≤ wr.heap.size := Nat.le_trans hz3 hb.size
        by_cases hlt : k < d1.size
        · obtain ⟨b, off, rfl, _, f⟩ := (h1.below hBw).at_ hlt
          have f0 := f 0 (by omega)
          have f1 := f 1 (by omega)
          have HX := HK.out k hlt
          have HL : Hid (lessN d1 q (k + 1) = ((lessN d1 q k).push (d1[k]!.1, min d1[k]!.2 (q.1 - 1))).push (max d1[k]!.1 (q.2 + 1), d1[k]!.2)) := rfl
          have hx1 := HX.1
          have hx2 := HX.2.1
          have hx3 := HX.2.2.1
          clear HX
          generalize d1[k]! = x at f0 f1 HL hx1 hx2 hx3
          simp only [Nat.add_zero, encR, List.getElem!_cons_zero, List.getElem!_cons_succ] at f0 f1
          clear f
          generalize lessN d1 q k = m at hown HL ms
          obtain ⟨Am, cm, rfl, _, _⟩ := rdK_of_owns hown
          have g0 : wr.cell? ⟨w.heap.size, 0, none⟩ = some (.int .i64 q.1) := (hb.cell (p := ⟨w.heap.size, 0, none⟩) (by simp)).trans q0
          have g1 : wr.cell? ⟨w.heap.size, 1, none⟩ = some (.int .i64 q.2) := (hb.cell (p := ⟨w.heap.size, 1, none⟩) (by simp)).trans q1
          have c0 : ∀ o, (wr.alloc o).cell? ⟨w.heap.size, 0, none⟩ = some (.int .i64 q.1) := fun o => (World.cell?_alloc_lt wr o ⟨w.heap.size, 0, none⟩ (by show w.heap.size < _; omega)).trans g0
          have c1' : ∀ o, (wr.alloc o).cell? ⟨w.heap.size, 1, none⟩ = some (.int .i64 q.2) := fun o => (World.cell?_alloc_lt wr o ⟨w.heap.size, 1, none⟩ (by show w.heap.size < _; omega)).trans g1
          have hq1 := HQ.out.1
          have hq2 := HQ.out.2
          have kz : (k : Int) < (d1.size : Int) := by omega
          clear q0 q1
          go_wp2_with (at_builtin; refine wpList_append_own _ rfl _ _ 33 rfl (w.heap.size + 1) 42 i0 (.agg #[.int .i64 0, .int .i64 0]) 2 16 Try.underlying33 hi0 hz0 hz1 hz2 rfl (by decide) _ _ _ rfl ((hown.alloc _).alloc _) ⟨wr.heap.size + 1, 0, none⟩ 2 2 [.int .i64 x.1, .int .i64 (min x.2 (q.1 - 1)), .int .i64 (max x.1 (q.2 + 1)), .int .i64 x.2] rfl rfl (four_new (wr.alloc _) _ (by simp) _ _ _ _ _) (by simp [Value.oneCell']) (by unfold maxLen; omega) (by omega) (by simp; omega) ?_; intro v' w4 hown' hgrow _)
          exact ⟨⟨k + 1, by omega, by go_num, (by rw [HL.out, Array.size_push, Array.size_push, flatK_push encR_len, flatK_push encR_len, List.append_assoc]; exact hown'), own_app2 hb hzr hown hgrow⟩, by simp [intOf]; omega⟩
        · obtain rfl : k = d1.size := by omega
          have HR := Lib.hid (HO.out q (by have := HQ.out; omega))
          generalize hm : lessN d1 q d1.size = m at hown HR ms
          have HE := Lib.hid hm
          clear hm
          obtain ⟨Am, cm, rfl, hrm, _⟩ := rdK_of_owns hown
          have HF := Lib.hid (form_any Am cm m A1 c1 d1 wr hrm ((h1.below hBw).mono hBw.size) (by omega) (by omega) HR.out)
          have HBW := Lib.hid hBw
          clear q0 q1
          go_wp2_with fail
          refine HF.out.mono ?_
          rintro e w5 ⟨d', v, out, rfl, hS, ho, hown5, hb5⟩
          have HX : Hid (Formed m d1 out) := ⟨d', hS, ho⟩
          clear hS ho
          go_wp2
          go_ret
          exact ⟨_, out, rfl, fun _ => HL.out out (by rw [HE.out]; exact HX.out), fun h => absurd HS.out h, own_mono hown5 HBW.out.size, belStep HBW.out hb5⟩
  · have hq : (setE d1 == 0) = false := by simpa using hs
    have HS := Lib.hid hs
    clear hs
    go_enter Try.func37, Try.ntmps37
    go_wp2_with fail
    refine (gmay_any _ _ d1 _ r0.out).mono ?_
    rintro e w1 ⟨rfl, hb1⟩
    go_wp2
    go_ret
    exact ⟨_, #[], rfl, fun h => absurd h HS.out, fun _ => rfl, nil_ownsK _ _ _ _ _, belStep (bel1 _ _) hb1⟩
theorem gCut_any (A1 : Option Addr) (c1 : Nat) (d1 : Array (Int × Int)) (n : Int) (w : World) (h1 : RdK encR 2 w.heap.size w A1 d1) :
    Calls Try.prog 39 #[.slice A1 d1.size c1, .int .i64 n] w fun e w' => ∃ v out, e = .returned v ∧ (setE d1 = 0 → LessOut d1 (1, n) out) ∧ (setE d1 ≠ 0 → out = #[]) ∧ w'.ownsRow w.heap.size 42 2 v out.size (flatK encR 2 out).toList ∧ Below w.heap.size w w' := by
  have H := Lib.hid (gLess_any A1 c1 d1 (1, n) w h1)
  go_enter Try.func39, Try.ntmps39
  go_wp2_with fail
  refine H.out.mono ?_
  rintro e w1 ⟨v, out, rfl, ho1, ho2, hown, hb⟩
  have HO1 := Lib.hid ho1
  have HO2 := Lib.hid ho2
  clear ho1 ho2
  go_wp2
  go_ret
  exact ⟨v, out, rfl, HO1.out, HO2.out, hown, hb⟩
end Go.Proofs.Ytpnjodefnpphkaa
