/- Answers that may be: rubatoref20.had, entry.acks; entry.numbers, entry.told, size.Count. -/
import Derived.Test.YtgpejfkmdenonaaEnB
import Derived.Deep.CutRange
namespace Go.Proofs.Ytgpejfkmdenonaa
open Go.RowKit Go.Sort Go.Lib
set_option maxRecDepth 100000
theorem beqI_E (a b : Int) : (a == b) = decide (a = b) := by by_cases h : a = b <;> simp [h]
set_option maxHeartbeats 4000000 in
theorem had_any (A : Option Addr) (c n : Nat) (z : Array AK) (q : AK) (w : World) (h : RdK encK 6 w.heap.size w A z) (hn : n ≤ z.size) (hs : z.size ≤ 1000000) :
    Calls Try.prog 60 #[.slice A n c, .agg (encK q).toArray] w fun e w' => e = .returned (.bool (hadN z n q)) ∧ Below w.heap.size w w' := by
  have HR := Lib.hid h
  clear h
  have HAD : Hid (hadN z n q = hadN z n q) := rfl
  have hbx : ∀ W, Below (w.alloc (.cells (encK q).toArray 78)).heap.size (w.alloc (.cells (encK q).toArray 78)) W → ∀ j, W.cell? ⟨w.heap.size, j, none⟩ = (encK q).toArray[j]? := fun W hb j => (hb.cell (p := ⟨w.heap.size, j, none⟩) (by simp)).trans (cell_new w _ _ j)
  have HBX := Lib.hid hbx
  have HB0 := Lib.hid (bel1 w (.cells (encK q).toArray 78))
  have HSZ : Hid ((w.alloc (.cells (encK q).toArray 78)).heap.size = w.heap.size + 1) := by show _ = _; simp
  clear hbx
  obtain ⟨kind, frm, bal, t, abal, ph⟩ := q
  simp only [encK] at HBX HB0 HSZ ⊢
  go_enter Try.func60, Try.ntmps60
  go_wp2
  generalize w.alloc (.cells #[.int .i64 kind, .int .i64 frm, .int .i64 bal, .int .i64 t, .int .i64 abal, .int .i64 ph] 78) = w0 at HBX HB0 HSZ ⊢
  go_loopw [5] (fun i wr => ∃ k : Nat, i = .int .i64 k ∧ k ≤ n ∧ Hid (∀ j, j < k → qB z[j]! ⟨kind, frm, bal, t, abal, ph⟩ = false) ∧ Hid (Below w0.heap.size w0 wr)) (fun i _ => n - (intOf i).toNat)
  case atStart => exact ⟨0, rfl, Nat.zero_le _, Lib.hid (fun j hj => absurd hj (by omega)), Lib.hid (Below.refl _ _)⟩
  case round =>
    obtain ⟨k, rfl, hk, hall, HB⟩ := hrel
    have HBW := Lib.hid (HB0.out.trans (HB.out.mono HB0.out.size))
    by_cases hlt : k < n
    · have kz : (k : Int) < (n : Int) := by omega
      obtain ⟨b, off, rfl, hbl, f⟩ := (HR.out.below HBW.out).at_ (i := k) (by omega)
      have hbw : b < wr.heap.size := Nat.lt_of_lt_of_le hbl HBW.out.size
      have hgw : w.heap.size < wr.heap.size := Nat.lt_of_lt_of_le (by rw [HSZ.out]; omega) HB.out.size
      have e0 := f 0 (by omega)
      have e1 := f 1 (by omega)
      have e2 := f 2 (by omega)
      have hb := HBX.out wr HB.out
      obtain ⟨x, hx⟩ : ∃ x, z[k]! = x := ⟨_, rfl⟩
      rw [hx] at e0 e1 e2
      have HX := Lib.hid hx
      simp only [Nat.add_zero, encK, List.getElem!_cons_zero, List.getElem!_cons_succ] at e0 e1 e2
      have q0 := fun p : ExtW wr => p.cell (a := ⟨b, off + k * 6, none⟩) hbw e0
      have q1 := fun p : ExtW wr => p.cell (a := ⟨b, off + k * 6 + 1, none⟩) hbw e1
      have q2 := fun p : ExtW wr => p.cell (a := ⟨b, off + k * 6 + 2, none⟩) hbw e2
      have a0 := fun p : ExtW wr => p.cell (a := ⟨w.heap.size, 0, none⟩) hgw (hb 0)
      have a1 := fun p : ExtW wr => p.cell (a := ⟨w.heap.size, 1, none⟩) hgw (hb 1)
      have a2 := fun p : ExtW wr => p.cell (a := ⟨w.heap.size, 2, none⟩) hgw (hb 2)
      have HQ : Hid (qB z[k]! ⟨kind, frm, bal, t, abal, ph⟩ = decide (x.kind = kind ∧ x.frm = frm ∧ x.bal = bal)) := by show _ = _; rw [HX.out]; rfl
      clear f e0 e1 e2 hb hx HX
      have hcase : (∃ g1 g2 g3 : Bool, (x.kind == kind) = g1 ∧ (x.frm == frm) = g2 ∧ (x.bal == bal) = g3) := ⟨_, _, _, rfl, rfl, rfl⟩
      obtain ⟨g1, g2, g3, h1, h2, h3⟩ := hcase
      have HG : Hid (qB z[k]! ⟨kind, frm, bal, t, abal, ph⟩ = (g1 && (g2 && g3))) := by
        show _ = _
        rw [HQ.out, ← h1, ← h2, ← h3, Bool.decide_and, Bool.decide_and]
        simp only [beqI_E]
      clear HQ
      cases g1 <;> cases g2 <;> cases g3
      all_goals
        go_wp2_with fail
        refine wp_region_ext (by kernel_rfl) (by kernel_rfl) ?_
        repeat (first | go_big_quiet_step (fail) | quiet_step (fail))
        refine wpQuiet_nil ?_
        intro w' hw'
        obtain ⟨⟨W, hbW⟩, hw''⟩ := hw'
        have hw3 : w' = W := hw''
        subst hw3
        have HW := Lib.hid (HB.out.trans (hbW.mono HB.out.size))
        clear hbW hw'' q0 q1 q2 a0 a1 a2
        go_wp2
        first
          | (go_roundw
             case rel =>
               refine ⟨k + 1, by go_num, by omega, Lib.hid (fun j hj => ?_), HW⟩
               rcases Nat.lt_or_ge j k with h | h
               · exact hall.out j h
               · obtain rfl : j = k := by omega
                 exact HG.out
             case measure => simp [intOf]; omega)
          | (go_ret
             exact ⟨ret_bool (hadN_yes k (by omega) HG.out).symm, HB0.out.trans (HW.out.mono HB0.out.size)⟩)
    · have hlt' : decide ((k : Int) < (n : Int)) = false := by simp; omega
      go_wp2
      go_ret
      exact ⟨ret_bool (hadN_no fun j hj => hall.out j (by omega)).symm, HBW.out⟩
/-- The answers may be: each may be, none of the same question ahead of it. -/
def goodK (z : Array AK) : Bool := (List.range z.size).all fun i => ackB z[i]! && !hadN z i z[i]!
theorem goodK_no {z : Array AK} (i : Nat) (hi : i < z.size) (h : (ackB z[i]! && !hadN z i z[i]!) = false) : goodK z = false := by
  unfold goodK
  rw [List.all_eq_false]
  exact ⟨i, List.mem_range.2 hi, by rw [h]; exact Bool.false_ne_true⟩
theorem goodK_yes {z : Array AK} (h : ∀ i, i < z.size → (ackB z[i]! && !hadN z i z[i]!) = true) : goodK z = true := by
  unfold goodK
  rw [List.all_eq_true]
  exact fun i hi => h i (List.mem_range.1 hi)
set_option maxHeartbeats 4000000 in
theorem acks_any (A : Option Addr) (c : Nat) (z : Array AK) (w : World) (h : RdK encK 6 w.heap.size w A z) (hc : z.size ≤ c) (hs : z.size ≤ 100) :
    Calls Try.prog 54 #[.slice A z.size c] w fun e w' => e = .returned (.bool (goodK z && decide (z.size ≤ 27))) ∧ Below w.heap.size w w' := by
  have HR := Lib.hid h
  clear h
  go_enter Try.func54, Try.ntmps54
  go_wp2
  go_loopw [8] (fun i wr => ∃ k : Nat, i = .int .i64 k ∧ k ≤ z.size ∧ Hid (∀ j, j < k → (ackB z[j]! && !hadN z j z[j]!) = true) ∧ Hid (Below w.heap.size w wr)) (fun i _ => z.size - (intOf i).toNat)
  case atStart => exact ⟨0, rfl, Nat.zero_le _, Lib.hid (fun j hj => absurd hj (by omega)), Lib.hid (Below.refl _ _)⟩
  case round =>
    obtain ⟨k, rfl, hk, hall, HB⟩ := hrel
    by_cases hlt : k < z.size
    · have kz : (k : Int) < (z.size : Int) := by omega
      obtain ⟨b, off, rfl, hbl, f⟩ := (HR.out.below HB.out).at_ (i := k) (by omega)
      have e0 := f 0 (by omega)
      have e1 := f 1 (by omega)
      have e2 := f 2 (by omega)
      have e3 := f 3 (by omega)
      have e4 := f 4 (by omega)
      have e5 := f 5 (by omega)
      have HO := Lib.hid (fun W => of_any z[k]! W)
      have HA := Lib.hid (fun W => answer_any z[k]! W)
      have HC := Lib.hid (fun W (hb : Below w.heap.size w W) => ConAck_any (some ⟨b, off, none⟩) c k z z[k]! W ((HR.out.below hb).mono hb.size) (by omega) (by omega))
      obtain ⟨g1, hg1⟩ : ∃ g, ackB z[k]! = g := ⟨_, rfl⟩
      obtain ⟨g2, hg2⟩ : ∃ g, hadN z k z[k]! = g := ⟨_, rfl⟩
      rw [hg1] at HA
      rw [hg2] at HC
      have HG : Hid ((ackB z[k]! && !hadN z k z[k]!) = (g1 && !g2)) := by show _ = _; rw [hg1, hg2]
      clear hg1 hg2
      obtain ⟨x, hx⟩ : ∃ x, z[k]! = x := ⟨_, rfl⟩
      rw [hx] at e0 e1 e2 e3 e4 e5 HO HA HC
      clear f hx
      obtain ⟨kind, frm, bal, t, abal, ph⟩ := x
      simp only [encK, Nat.add_zero, List.getElem!_cons_zero, List.getElem!_cons_succ] at e0 e1 e2 e3 e4 e5 HO HA HC
      have kc : (k : Int) ≤ (c : Int) := by omega
      have HBX := Lib.hid (fun W (hb : Below (wr.alloc (.cells #[.int .i64 kind, .int .i64 frm, .int .i64 bal, .int .i64 t, .int .i64 abal, .int .i64 ph] 78)).heap.size (wr.alloc (.cells #[.int .i64 kind, .int .i64 frm, .int .i64 bal, .int .i64 t, .int .i64 abal, .int .i64 ph] 78)) W) (j : Nat) => (hb.cell (p := ⟨wr.heap.size, j, none⟩) (by simp)).trans (cell_new wr #[.int .i64 kind, .int .i64 frm, .int .i64 bal, .int .i64 t, .int .i64 abal, .int .i64 ph] _ j))
      have HBB := Lib.hid (belAlloc HB.out (.cells #[.int .i64 kind, .int .i64 frm, .int .i64 bal, .int .i64 t, .int .i64 abal, .int .i64 ph] 78))
      go_wp2_with fail
      refine (HO.out _).mono ?_
      rintro e w1 ⟨rfl, hb1⟩
      have a0 := HBX.out w1 hb1 0
      have a1 := HBX.out w1 hb1 1
      have a2 := HBX.out w1 hb1 2
      have a3 := HBX.out w1 hb1 3
      have a4 := HBX.out w1 hb1 4
      have a5 := HBX.out w1 hb1 5
      have HB1 := Lib.hid hb1
      clear hb1
      go_wp2_with fail
      refine (HA.out _).mono ?_
      rintro e w2 ⟨rfl, hb2⟩
      have HB2 := Lib.hid (belStep HBB.out (belStep HB1.out hb2))
      clear hb2 HO HA HBX
      cases g1
      · go_wp2
        go_ret
        refine ⟨ret_bool ?_, HB2.out⟩
        rw [goodK_no k hlt (by rw [HG.out]; rfl)]; rfl
      · go_wp2_with fail
        refine (HC.out _ HB2.out).mono ?_
        rintro e w3 ⟨rfl, hb3⟩
        have HB3 := Lib.hid (belStep HB2.out hb3)
        clear hb3 HC
        cases g2
        · go_wp2
          go_roundw
          case rel =>
            refine ⟨k + 1, by go_num, by omega, Lib.hid (fun j hj => ?_), HB3⟩
            rcases Nat.lt_or_ge j k with h | h
            · exact hall.out j h
            · obtain rfl : j = k := by omega
              exact HG.out
          case measure => simp [intOf]; omega
        · go_wp2
          go_ret
          refine ⟨ret_bool ?_, HB3.out⟩
          rw [goodK_no k hlt (by rw [HG.out]; rfl)]; rfl
    · have hlt' : decide ((k : Int) < (z.size : Int)) = false := by simp; omega
      have HG : Hid (goodK z = true) := goodK_yes fun i hi => hall.out i (by omega)
      go_wp2
      go_ret
      refine ⟨ret_bool ?_, HB.out⟩
      rw [HG.out]
      simp <;> omega
end Go.Proofs.Ytgpejfkmdenonaa
