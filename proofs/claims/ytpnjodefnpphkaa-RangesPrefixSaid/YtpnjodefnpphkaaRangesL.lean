/- Contracts of the layer 'ranges': Gaps. -/
import Derived.Test.YtpnjodefnpphkaaRangesK
import Derived.Deep.AppendLies
namespace Go.Proofs.Ytpnjodefnpphkaa
open Go.RowKit Go.Sort Go.Lib

theorem own_heap {w w' : World} {base : Nat} {e : TypeId} {size : Nat} {v : Value} {n : Nat} {xs : List Value} (h : w.ownsRow base e size v n xs) (hb : ∀ g, base ≤ g → g < w.heap.size → w'.heap[g]? = w.heap[g]?) : w'.ownsRow base e size v n xs :=
  ⟨h.1, h.2.imp id fun ⟨g, cap, cur, q1, q2, q3, q4⟩ => ⟨g, cap, cur, q1, q2, (hb g q2 (Array.getElem?_eq_some_iff.1 q3).1).trans q3, q4⟩⟩
theorem blk_set {W : World} {B : Nat} {a c u : Value} {t : TypeId} (h : W.heap[B]? = some (.cells #[a, c] t (0, 0))) : (W.setCell ⟨B, 0, none⟩ u).heap[B]? = some (.cells #[u, c] t (0, 0)) := by
  simp [World.setCell, Array.getElem?_modify, h]
theorem blk_cells {W : World} {B : Nat} {a c : Value} {t : TypeId} (h : W.heap[B]? = some (.cells #[a, c] t (0, 0))) : W.cell? ⟨B, 0, none⟩ = some a ∧ W.cell? ⟨B, 1, none⟩ = some c ∧ W.frozen? ⟨B, 0, none⟩ = false := by
  simp [World.cell?, World.frozen?, h]
theorem blk_alloc {W : World} {B : Nat} {o o' : Obj} (h : W.heap[B]? = some o) : (W.alloc o').heap[B]? = some o :=
  (Below.heap_alloc W o' B (by have := (Array.getElem?_eq_some_iff.1 h).1; omega)).trans h
theorem two_newH (W : World) (H : Nat) (hH : W.heap.size = H) (p q : Value) (t : TypeId) : ∀ j u, [p, q][j]? = some u → (W.alloc (.cells #[p, q] t)).cell? ((⟨H, 0, none⟩ : Addr).add j) = some u := by subst hH; exact two_new W p q t
def GapsOut (d : Array (Int × Int)) (r : Int × Int) (out : Array (Int × Int)) : Prop := Formed (gapsE d (heldR r)) #[] out
theorem gapsN_succ (d : Array (Int × Int)) (lo hi : Int) (k : Nat) : gapsN d lo hi (k + 1) = if d[k]!.2 < (gapsN d lo hi k).2 then gapsN d lo hi k else
      ((if (gapsN d lo hi k).2 ≤ min (d[k]!.1 - 1) hi then (gapsN d lo hi k).1.push ((gapsN d lo hi k).2, min (d[k]!.1 - 1) hi) else (gapsN d lo hi k).1), max (gapsN d lo hi k).2 (d[k]!.2 + 1)) := rfl
set_option maxRecDepth 100000 in
set_option maxHeartbeats 4000000 in
theorem gGaps_any (A1 : Option Addr) (c1 : Nat) (d1 : Array (Int × Int)) (r : Int × Int) (w : World) (h1 : RdK encR 2 w.heap.size w A1 d1) :
    Calls Try.prog 33 #[.slice A1 d1.size c1, .int .i64 r.1, .int .i64 r.2] w fun e w' => ∃ v out, e = .returned v ∧ (setE d1 = 0 → GapsOut d1 r out) ∧ (setE d1 ≠ 0 → out = #[]) ∧ w'.ownsRow w.heap.size 42 2 v out.size (flatK encR 2 out).toList ∧ Below w.heap.size w w' := by
  by_cases hs : setE d1 = 0
  · have hq : (setE d1 == 0) = true := by simp [hs]
    have hd1 := (setE_all hs).1
    have HK := Lib.hid (fun k hk => @ok_at d1 hs k hk)
    have HS := Lib.hid hs
    obtain ⟨i0, hi0, hz0, hz1, hz2⟩ := info_parts range_info
    clear hs
    go_enter Try.func33, Try.ntmps33
    go_wp2_with fail
    refine (gmay_any _ _ d1 _ h1).mono ?_
    rintro e w1 ⟨rfl, hb1⟩
    go_wp2_with fail
    refine (held_any r _).mono ?_
    rintro e w2 ⟨rfl, hb2⟩
    have HL : Hid (∀ out, Formed (gapsE d1 (heldR r)) #[] out → GapsOut d1 r out) := fun out h => h
    have hbq : 1 ≤ (heldR r).1 ∧ (heldR r).2 ≤ 1000000 := by unfold heldR; constructor <;> (simp only; omega)
    have hbr : (heldR r).1 ≤ 9223372036854775807 → True := fun _ => trivial
    clear hbr
    generalize heldR r = q at hbq HL ⊢
    have hB2 : Below w.heap.size w w2 := belStep hb1 hb2
    clear hb1 hb2
    have blk0 : (w2.alloc (.cells #[.int .i64 q.1, .int .i64 q.2] 42)).heap[w2.heap.size]? = some (.cells #[.int .i64 q.1, .int .i64 q.2] 42 (0, 0)) := heap_alloc_new w2 _
    have hB3 : Below w.heap.size w (w2.alloc (.cells #[.int .i64 q.1, .int .i64 q.2] 42)) := belAlloc hB2 _
    have hz3 : w2.heap.size + 1 ≤ (w2.alloc (.cells #[.int .i64 q.1, .int .i64 q.2] 42)).heap.size := by simp
    have hz4 : w.heap.size ≤ w2.heap.size := hB2.size
    have HBQ := Lib.hid hbq
    go_wp2
    generalize (w2.alloc (.cells #[.int .i64 q.1, .int .i64 q.2] 42)) = W3 at hB3 blk0 hz3 ⊢
    generalize w2.heap.size = B at blk0 hz3 hz4 ⊢
    clear hB2
    go_loopw [8, 21] (fun m i wr => ∃ k : Nat, k ≤ d1.size ∧ i = .int .i64 k ∧ wr.ownsRow (B + 1) 42 2 m (gapsN d1 q.1 q.2 k).1.size (flatK encR 2 (gapsN d1 q.1 q.2 k).1).toList ∧ Below B W3 wr ∧ wr.heap[B]? = some (.cells #[.int .i64 (gapsN d1 q.1 q.2 k).2, .int .i64 q.2] 42 (0, 0)) ∧ B + 1 ≤ wr.heap.size) (fun _ i _ => d1.size - (intOf i).toNat)
    case atStart => exact ⟨0, Nat.zero_le _, rfl, nil_ownsK _ _ _ _ _, Below.refl _ _, blk0, hz3⟩
    case round =>
      obtain ⟨k, hk, rfl, hown, hb, hblk, hzr⟩ := hrel
      have hbd := gapsN_bd HS.out HBQ.out.1 HBQ.out.2 k hk
      have ms : (gapsN d1 q.1 q.2 k).1.size ≤ k := hbd.2.2.1
      have hlo := hbd.1
      have hhi := hbd.2.1
      clear hbd
      have hBw : Below w.heap.size w wr := hB3.trans (hb.mono hz4)
      by_cases hlt : k < d1.size
      · obtain ⟨b, off, rfl, _, f⟩ := (h1.below hBw).at_ hlt
        have f0 := f 0 (by omega)
        have f1 := f 1 (by omega)
        have HX := HK.out k hlt
        have HG := Lib.hid (gapsN_succ d1 q.1 q.2 k)
        have hx1 := HX.1
        have hx2 := HX.2.1
        have hx3 := HX.2.2.1
        clear HX
        generalize d1[k]! = x at f0 f1 HG hx1 hx2 hx3
        simp only [Nat.add_zero, encR, List.getElem!_cons_zero, List.getElem!_cons_succ] at f0 f1
        clear f
        generalize gapsN d1 q.1 q.2 k = m at hown HG ms hblk hlo hhi
        obtain ⟨m, lo⟩ := m
        simp only at hown ms hblk hlo hhi
        obtain ⟨Am, cm, rfl, _, _⟩ := rdK_of_owns hown
        have c0 : ∀ o, (wr.alloc o).cell? ⟨B, 0, none⟩ = some (.int .i64 lo) := fun o => (blk_cells (blk_alloc hblk)).1
        have c1' : ∀ o, (wr.alloc o).cell? ⟨B, 1, none⟩ = some (.int .i64 q.2) := fun o => (blk_cells (blk_alloc hblk)).2.1
        have cf : ∀ o, (wr.alloc o).frozen? ⟨B, 0, none⟩ = false := fun o => (blk_cells (blk_alloc hblk)).2.2
        have hq1 := HBQ.out.1
        have hq2 := HBQ.out.2
        have kz : (k : Int) < (d1.size : Int) := by omega
        by_cases hc1 : x.2 < lo
        · have HE : Hid (gapsN d1 q.1 q.2 (k + 1) = (m, lo)) := HG.out.trans (if_pos hc1)
          have HBK := Lib.hid hblk
          clear hblk
          go_wp2
          exact ⟨⟨k + 1, by omega, by go_num, (by rw [HE.out]; exact hown.alloc _), hb.alloc (by omega) _, (by rw [HE.out]; exact blk_alloc HBK.out), by simp; omega⟩, by simp [intOf]; omega⟩
        · have hc1' : decide (x.2 < lo) = false := by simp; omega
          by_cases hc2 : lo ≤ min (x.1 - 1) q.2
          · have HE : Hid (gapsN d1 q.1 q.2 (k + 1) = (m.push (lo, min (x.1 - 1) q.2), max lo (x.2 + 1))) := by show _ = _; rw [HG.out, if_neg hc1, if_pos hc2]
            have HBK := Lib.hid hblk
            have HR := Lib.hid (fun g hg => hown.lt g hg)
            clear hblk
            go_wp2_with (at_builtin; refine wpList_append_own _ rfl _ _ 33 rfl (B + 1) 42 i0 (.agg #[.int .i64 0, .int .i64 0]) 2 16 Try.underlying33 hi0 hz0 hz1 hz2 rfl (by decide) _ _ _ rfl ((hown.alloc _).alloc _) ⟨wr.heap.size + 1, 0, none⟩ 1 1 [.int .i64 lo, .int .i64 (min (x.1 - 1) q.2)] rfl rfl (two_newH (wr.alloc _) _ (by simp) _ _ _) (by simp [Value.oneCell']) (by unfold maxLen; omega) (by omega) (by simp; omega) ?_; intro v' w4 hown' hgrow _; have hb4 := Lib.hid ((hgrow.block B (by simp; omega) (fun e => by have := (HR.out B e.symm).1; omega)).trans (blk_alloc (blk_alloc HBK.out))); have e0 := (blk_cells hb4.out).1; have e1 := (blk_cells hb4.out).2.1; have e2 := (blk_cells hb4.out).2.2; have e3 : w4.cell? ⟨wr.heap.size, 1, none⟩ = some (.int .i64 x.2) := (hgrow.cell_far ⟨wr.heap.size, 1, none⟩ (by simp; omega) (fun e => absurd (HR.out _ e.symm).2 (Nat.lt_irrefl _))).trans ((World.cell?_alloc_lt _ _ ⟨wr.heap.size, 1, none⟩ (by simp)).trans (cell_new wr _ _ 1)))
            have hz4' : wr.heap.size + 2 ≤ w4.heap.size := by have := hgrow.size; simp at this; omega
            exact ⟨⟨k + 1, by omega, by go_num, (by rw [HE.out]; simp only; rw [Array.size_push, flatK_push encR_len]; exact own_heap hown' (fun g hg _ => Below.heap_setCell _ _ _ _ (by show g ≠ B; omega))), (((hb.alloc (by omega) _).alloc (by simp; omega) _).grown hgrow (by simp; omega) (fun g hg => by have := (HR.out g hg).1; omega)).setCell (Nat.le_refl _) _, (by rw [HE.out]; exact blk_set hb4.out), by simp [World.setCell]; omega⟩, by simp [intOf]; omega⟩
          · have hc2' : decide (lo ≤ min (x.1 - 1) q.2) = false := by simp; omega
            have HE : Hid (gapsN d1 q.1 q.2 (k + 1) = (m, max lo (x.2 + 1))) := by show _ = _; rw [HG.out, if_neg hc1, if_neg hc2]
            have HBK := Lib.hid hblk
            clear hblk
            have HC2 := Lib.hid hc2
            clear hc2
            go_wp2
            exact ⟨⟨k + 1, by omega, by go_num, (by rw [HE.out]; exact own_heap (hown.alloc _) (fun g hg _ => Below.heap_setCell _ _ _ _ (by show g ≠ B; omega))), (hb.alloc (by omega) _).setCell (Nat.le_refl _) _, (by rw [HE.out]; exact blk_set (blk_alloc HBK.out)), by simp [World.setCell]; omega⟩, by simp [intOf]; omega⟩
      · obtain rfl : k = d1.size := by omega
        have HR := Lib.hid (gapsE_ok HS.out HBQ.out.1 HBQ.out.2)
        have hms := gapsE_size HS.out HBQ.out.1 HBQ.out.2
        have HG : Hid (gapsE d1 q = if (gapsN d1 q.1 q.2 d1.size).2 ≤ q.2 then (gapsN d1 q.1 q.2 d1.size).1.push ((gapsN d1 q.1 q.2 d1.size).2, q.2) else (gapsN d1 q.1 q.2 d1.size).1) := rfl
        generalize gapsN d1 q.1 q.2 d1.size = m at hown HG ms hblk hlo hhi
        obtain ⟨m, lo⟩ := m
        simp only at hown ms hblk hlo hhi
        have HBW := Lib.hid hBw
        have HB := Lib.hid hb
        obtain ⟨e0, e1, _⟩ := blk_cells hblk
        by_cases hge : lo ≤ q.2
        · have HE : Hid (gapsE d1 q = m.push (lo, q.2)) := HG.out.trans (if_pos hge)
          have HRW := Lib.hid (fun g hg => hown.lt g hg)
          have HBK := Lib.hid hblk
          clear hblk
          obtain ⟨Am, cm, rfl, _, _⟩ := rdK_of_owns hown
          go_wp2_with (at_builtin; refine wpList_append_own _ rfl _ _ 33 rfl (B + 1) 42 i0 (.agg #[.int .i64 0, .int .i64 0]) 2 16 Try.underlying33 hi0 hz0 hz1 hz2 rfl (by decide) _ _ _ rfl (hown.alloc _) ⟨wr.heap.size, 0, none⟩ 1 1 [.int .i64 lo, .int .i64 q.2] rfl rfl (two_newH wr _ rfl _ _ _) (by simp [Value.oneCell']) (by unfold maxLen; omega) (by omega) (by simp; omega) ?_; intro v' w4 hown' hgrow _)
          have hB4 : Below w.heap.size w w4 := (HBW.out.alloc HBW.out.size _).grown hgrow (by have := HBW.out.size; simp; omega) (fun g hg => by have := (HRW.out g hg).1; omega)
          have hown4 : w4.ownsRow (B + 1) 42 2 v' (m.push (lo, q.2)).size (flatK encR 2 (m.push (lo, q.2))).toList := by rw [Array.size_push, flatK_push encR_len]; exact hown'
          rw [HE.out] at hms
          have HR' := Lib.hid (by have := HR.out; rw [HE.out] at this; exact this : ∀ y ∈ m.push (lo, q.2), isR y = true → 1 ≤ y.1 ∧ y.1 ≤ y.2 ∧ y.2 ≤ 1000000)
          clear HR
          generalize m.push (lo, q.2) = mm at hown4 HR' hms HE
          obtain ⟨An, cn, rfl, hrn, _⟩ := rdK_of_owns hown4
          have HF : Hid (Calls Try.prog 60 #[.slice An mm.size cn, .slice none 0 0] w4 _) := Lib.hid (form_any An cn mm none 0 #[] w4 hrn (fun h => absurd h (by decide)) (by omega) (by decide) HR'.out)
          go_wp2_with fail
          refine HF.out.mono ?_
          rintro e w5 ⟨d', v, out, rfl, hS, ho, hown5, hb5⟩
          have HX : Hid (Formed mm #[] out) := ⟨d', hS, ho⟩
          clear hS ho
          go_wp2
          go_ret
          exact ⟨_, out, rfl, fun _ => HL.out out (by rw [HE.out]; exact HX.out), fun h => absurd HS.out h, own_mono hown5 hB4.size, belStep hB4 hb5⟩
        · have hge' : decide (lo ≤ q.2) = false := by simp; omega
          have HE : Hid (gapsE d1 q = m) := HG.out.trans (if_neg hge)
          have HGE := Lib.hid hge
          clear hge
          rw [HE.out] at hms
          have HR' := Lib.hid (by have := HR.out; rw [HE.out] at this; exact this : ∀ y ∈ m, isR y = true → 1 ≤ y.1 ∧ y.1 ≤ y.2 ∧ y.2 ≤ 1000000)
          clear HR
          obtain ⟨An, cn, rfl, hrn, _⟩ := rdK_of_owns hown
          have HF : Hid (Calls Try.prog 60 #[.slice An m.size cn, .slice none 0 0] wr _) := Lib.hid (form_any An cn m none 0 #[] wr hrn (fun h => absurd h (by decide)) (by omega) (by decide) HR'.out)
          go_wp2_with fail
          refine HF.out.mono ?_
          rintro e w5 ⟨d', v, out, rfl, hS, ho, hown5, hb5⟩
          have HX : Hid (Formed m #[] out) := ⟨d', hS, ho⟩
          clear hS ho
          go_wp2
          go_ret
          exact ⟨_, out, rfl, fun _ => HL.out out (by rw [HE.out]; exact HX.out), fun h => absurd HS.out h, own_mono hown5 HBW.out.size, belStep HBW.out hb5⟩
  · have hq : (setE d1 == 0) = false := by simpa using hs
    have HS := Lib.hid hs
    clear hs
    go_enter Try.func33, Try.ntmps33
    go_wp2_with fail
    refine (gmay_any _ _ d1 _ h1).mono ?_
    rintro e w1 ⟨rfl, hb1⟩
    go_wp2
    go_ret
    exact ⟨_, #[], rfl, fun h => absurd h HS.out, fun _ => rfl, nil_ownsK _ _ _ _ _, hb1⟩
end Go.Proofs.Ytpnjodefnpphkaa
