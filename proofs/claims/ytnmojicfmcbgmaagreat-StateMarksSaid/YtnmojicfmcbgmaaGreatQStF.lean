/- Whether a command is done: state.done, state.Done, rubatoref25.Done; a box known as a row. -/
import Derived.Test.YtnmojicfmcbgmaaGreatQStC
import Derived.Test.YtnmojicfmcbgmaaGreatQEnC
import Derived.Test.YtnmojicfmcbgmaaGreatQRead
namespace Go.Proofs.YtnmojicfmcbgmaaGreat
open Go.RowKit Go.Sort Go.Lib
set_option maxRecDepth 100000
/-- A box that was made at w, of these cells, in a world that has only grown: the row itself. -/
structure BoxR (w : World) (cs : Array Value) (T : TypeId) (W : World) : Prop where
  b : Below w.heap.size w W
  row : W.heap[w.heap.size]? = some (.cells cs T (0, 0))
theorem BoxR.init (w : World) (cs : Array Value) (t : TypeId) : BoxR w cs t (w.alloc (.cells cs t)) := ⟨bel1 w _, heap_alloc_new w _⟩
theorem BoxR.lt {w W : World} {cs : Array Value} {t : TypeId} (h : BoxR w cs t W) : w.heap.size < W.heap.size := by
  rcases Nat.lt_or_ge w.heap.size W.heap.size with g | g
  · exact g
  · have := h.row
    rw [Array.getElem?_eq_none g] at this
    cases this
theorem BoxR.next {w W W' : World} {cs : Array Value} {t : TypeId} (h : BoxR w cs t W) (hb : Below W.heap.size W W') : BoxR w cs t W' :=
  ⟨belStep h.b hb, (hb.block _ h.lt).trans h.row⟩
theorem BoxR.at_ {w W : World} {cs : Array Value} {t : TypeId} (h : BoxR w cs t W) (j : Nat) {v : Value} (hj : cs[j]? = some v) : W.cell? ⟨w.heap.size, j, none⟩ = some v := by
  rw [cell_of_row W _ j cs t (0, 0) h.row]; exact hj
theorem BoxR.box {w W : World} {cs : Array Value} {t : TypeId} (h : BoxR w cs t W) {n : Nat} (hn : cs.size = n) : boxAt W w.heap.size n = true := boxAt_of h.row hn
theorem BoxR.rowAt {w W : World} {cs : Array Value} {t : TypeId} (h : BoxR w cs t W) : rowAt W w.heap.size = cs := rowAt_of h.row
attribute [local go_sem ↓] execOp_loadRep execOp_storeRep
attribute [local go_sem] run_loadBox run_storeBox_new
/-- Is a command of a replica that may be done? -/
def doneI (r : RP) (id : Int) : Bool := decide (1 ≤ selfN_I id ∧ selfN_I id ≤ r.n) && hasB_R r.d.z[(selfN_I id).toNat - 1]!.z (seqN_I id)
set_option maxHeartbeats 8000000 in
theorem done0_any (r : RP) (id : Int) (w : World) (hD : RdK encW 1 w.heap.size w r.d.A r.d.z) (hDD : ∀ i, i < r.d.z.size → RdK encR 2 w.heap.size w r.d.z[i]!.A r.d.z[i]!.z) (hn : (r.d.z.size : Int) = r.n) (hz : r.d.z.size ≤ 1000) :
    Calls Tryz.prog 39 #[.agg (encP r).toArray, .int .i64 id] w fun e w' => e = .returned (.bool (doneI r id)) ∧ Below w.heap.size w w' := by
  have HX := Lib.hid (BoxW.init w (encP r).toArray 35)
  have HRD := Lib.hid hD
  have HRR := Lib.hid hDD
  have HN := Lib.hid hn
  obtain ⟨sf, hsf⟩ : ∃ s, selfN_I id = s := ⟨_, rfl⟩
  have HS : Hid (∀ W, Calls Tryz.prog 64 #[.int .i64 id] W fun e w' => e = .returned (.int .i64 sf) ∧ W = w') := fun W => hsf ▸ Self_any id W
  have HDN : Hid (doneI r id = (decide (1 ≤ sf ∧ sf ≤ r.n) && hasB_R r.d.z[sf.toNat - 1]!.z (seqN_I id))) := by show _ = _; unfold doneI; rw [hsf]
  clear hD hDD hn hsf
  simp only [encP] at HX ⊢
  by_cases h1 : 1 ≤ sf
  · by_cases h2 : sf ≤ r.n
    · have h1' : decide (1 ≤ sf) = true := decide_eq_true h1
      have h2' : decide (sf ≤ r.n) = true := decide_eq_true h2
      obtain ⟨k, hk⟩ : ∃ k : Nat, sf = (k : Int) + 1 := ⟨(sf - 1).toNat, by omega⟩
      have hkd : k < r.d.z.size := by have := HN.out; omega
      have hsub : sf - 1 = (k : Int) := by omega
      have hwr : IntKind.i64.wrap (sf - 1) = (k : Int) := by rw [hsub]; exact IntWalk.i64_in _ (by omega)
      have kd : (k : Int) < (r.d.z.size : Int) := by omega
      have HV : Hid (doneI r id = hasB_R r.d.z[k]!.z (seqN_I id)) := by
        show _ = _
        rw [HDN.out, decide_eq_true ⟨h1, h2⟩, Bool.true_and, show sf.toNat - 1 = k by omega]
      obtain ⟨b2, off2, hA2, hbl2, f2⟩ := HRD.out.at_ (i := k) (by omega)
      have g0 := f2 0 (by omega)
      have HR2 := Lib.hid (HRR.out k hkd)
      obtain ⟨u, hu⟩ : ∃ u, r.d.z[k]! = u := ⟨_, rfl⟩
      rw [hu] at g0 HR2 HV
      clear f2 hu HDN hk
      simp only [Nat.add_zero, Nat.mul_one, encW, RW.v, List.getElem!_cons_zero] at g0
      rw [hA2] at HX ⊢
      clear hA2
      go_enter Tryz.func39, Tryz.ntmps39
      go_wp2_with (go_at_call 64; refine (HS.out _).mono ?_; rintro _ _ ⟨rfl, rfl⟩)
      obtain ⟨w0, hw0⟩ : ∃ W, W = w.alloc (.cells #[.int .i64 r.n, .int .i64 r.f, .int .i64 r.self, .int .i64 r.clock, .int .i64 r.seq, .int .i64 r.floor, .int .i64 r.ticks, .slice r.e.A r.e.z.size r.e.c, .slice r.o.A r.o.z.size r.o.c, .slice r.k.A r.k.z.size r.k.c, .slice r.m.A r.m.z.size r.m.c, .slice r.fr.A r.fr.z.size r.fr.c, .slice (some ⟨b2, off2, none⟩) r.d.z.size r.d.c, .int .i64 r.lt, .int .i64 r.lid, .int .i64 r.count, .slice r.it.A r.it.z.size r.it.c, .slice r.ss.A r.ss.z.size r.ss.c] 35) := ⟨_, rfl⟩
      rw [← hw0] at HX ⊢
      clear hw0
      have hlw := HX.out.lt
      have a0 := fun p : ExtW w0 => p.cell (a := ⟨w.heap.size, 0, none⟩) hlw (HX.out.at_ 0)
      have a12 := fun p : ExtW w0 => p.cell (a := ⟨w.heap.size, 12, none⟩) hlw (HX.out.at_ 12)
      have a20 := fun p : ExtW w0 => p.cell (a := ⟨b2, off2 + k, none⟩) (Nat.lt_trans hbl2 hlw) ((HX.out.b.cell (p := ⟨b2, off2 + k, none⟩) hbl2).trans g0)
      have HC := Lib.hid (fun p : ExtW w0 => gHas_any u.A u.c u.z (seqN_I id) p.to (((HR2.out.below HX.out.b).mono HX.out.b.size |>.below p.h).mono p.h.size))
      obtain ⟨sq, hsq⟩ : ∃ s, seqN_I id = s := ⟨_, rfl⟩
      have HSq : Hid (∀ W, Calls Tryz.prog 66 #[.int .i64 id] W fun e w' => e = .returned (.int .i64 sq) ∧ W = w') := fun W => hsq ▸ Seq_any id W
      rw [hsq] at HC HV
      clear hsq
      refine wp_region_ext (by kernel_rfl) (by kernel_rfl) ?_
      repeat (first | go_big_quiet_step ((first | (go_at_call 66; exact Calls.ext_same (HSq.out _)) | (go_at_call 90; exact Calls.ext_of (HC.out _)))) | quiet_step (fail))
      refine wpQuiet_nil ?_
      intro w' hw'
      obtain ⟨⟨W, hbW⟩, hw''⟩ := hw'
      have hw3 : w' = W := hw''
      subst hw3
      have HW := Lib.hid (belStep HX.out.b hbW)
      clear hbW hw'' a0 a12 a20
      go_wp2
      go_ret
      exact ⟨ret_bool HV.out.symm, HW.out⟩
    · have h1' : decide (1 ≤ sf) = true := decide_eq_true h1
      have h2' : decide (sf ≤ r.n) = false := decide_eq_false h2
      have HV : Hid (doneI r id = false) := by show _ = _; rw [HDN.out, decide_eq_false (by omega)]; rfl
      clear HDN
      go_enter Tryz.func39, Tryz.ntmps39
      go_wp2_with (go_at_call 64; refine (HS.out _).mono ?_; rintro _ _ ⟨rfl, rfl⟩)
      obtain ⟨w0, hw0⟩ : ∃ W, W = w.alloc (.cells #[.int .i64 r.n, .int .i64 r.f, .int .i64 r.self, .int .i64 r.clock, .int .i64 r.seq, .int .i64 r.floor, .int .i64 r.ticks, .slice r.e.A r.e.z.size r.e.c, .slice r.o.A r.o.z.size r.o.c, .slice r.k.A r.k.z.size r.k.c, .slice r.m.A r.m.z.size r.m.c, .slice r.fr.A r.fr.z.size r.fr.c, .slice r.d.A r.d.z.size r.d.c, .int .i64 r.lt, .int .i64 r.lid, .int .i64 r.count, .slice r.it.A r.it.z.size r.it.c, .slice r.ss.A r.ss.z.size r.ss.c] 35) := ⟨_, rfl⟩
      rw [← hw0] at HX ⊢
      clear hw0
      have hlw := HX.out.lt
      have a0 := fun p : ExtW w0 => p.cell (a := ⟨w.heap.size, 0, none⟩) hlw (HX.out.at_ 0)
      refine wp_region_ext (by kernel_rfl) (by kernel_rfl) ?_
      repeat (first | go_big_quiet_step (fail) | quiet_step (fail))
      refine wpQuiet_nil ?_
      intro w' hw'
      obtain ⟨⟨W, hbW⟩, hw''⟩ := hw'
      have hw3 : w' = W := hw''
      subst hw3
      have HW := Lib.hid (belStep HX.out.b hbW)
      clear hbW hw'' a0
      go_wp2
      go_ret
      exact ⟨ret_bool HV.out.symm, HW.out⟩
  · have h1' : decide (1 ≤ sf) = false := decide_eq_false h1
    have HV : Hid (doneI r id = false) := by show _ = _; rw [HDN.out, decide_eq_false (by omega)]; rfl
    clear HDN
    go_enter Tryz.func39, Tryz.ntmps39
    go_wp2_with (go_at_call 64; refine (HS.out _).mono ?_; rintro _ _ ⟨rfl, rfl⟩)
    obtain ⟨w0, hw0⟩ : ∃ W, W = w.alloc (.cells #[.int .i64 r.n, .int .i64 r.f, .int .i64 r.self, .int .i64 r.clock, .int .i64 r.seq, .int .i64 r.floor, .int .i64 r.ticks, .slice r.e.A r.e.z.size r.e.c, .slice r.o.A r.o.z.size r.o.c, .slice r.k.A r.k.z.size r.k.c, .slice r.m.A r.m.z.size r.m.c, .slice r.fr.A r.fr.z.size r.fr.c, .slice r.d.A r.d.z.size r.d.c, .int .i64 r.lt, .int .i64 r.lid, .int .i64 r.count, .slice r.it.A r.it.z.size r.it.c, .slice r.ss.A r.ss.z.size r.ss.c] 35) := ⟨_, rfl⟩
    rw [← hw0] at HX ⊢
    clear hw0
    have hlw := HX.out.lt
    refine wp_region_ext (by kernel_rfl) (by kernel_rfl) ?_
    repeat (first | go_big_quiet_step (fail) | quiet_step (fail))
    refine wpQuiet_nil ?_
    intro w' hw'
    obtain ⟨⟨W, hbW⟩, hw''⟩ := hw'
    have hw3 : w' = W := hw''
    subst hw3
    have HW := Lib.hid (belStep HX.out.b hbW)
    clear hbW hw'' 
    go_wp2
    go_ret
    exact ⟨ret_bool HV.out.symm, HW.out⟩
set_option maxHeartbeats 4000000 in
theorem stDone_core (r : RP) (id : Int) (w : World) (c : Int)
    (hC : ∀ W, Below w.heap.size w W → Calls Tryz.prog 9 #[.agg (encP r).toArray] W fun e w' => e = .returned (.int .i64 c) ∧ Below W.heap.size W w')
    (hF : c = 0 → ∀ W, Below w.heap.size w W → Calls Tryz.prog 39 #[.agg (encP r).toArray, .int .i64 id] W fun e w' => e = .returned (.bool (doneI r id)) ∧ Below W.heap.size W w') :
    Calls Tryz.prog 11 #[.agg (encP r).toArray, .int .i64 id] w fun e w' => e = .returned (.bool ((c == 0) && doneI r id)) ∧ Below w.heap.size w w' := by
  have HC := Lib.hid hC
  obtain ⟨x, hx⟩ : ∃ x, ((c == 0) && doneI r id) = x := ⟨_, rfl⟩
  rw [hx]
  obtain ⟨cs, hcs⟩ : ∃ cs, cs = (encP r).toArray := ⟨_, rfl⟩
  have HI : cs.size = 18 := by rw [hcs]; rfl
  have HZ : (Tryz.prog.info? 35).map (·.size) = some cs.size := by rw [HI]; kernel_rfl
  rw [← hcs] at HC hF ⊢
  have HF := Lib.hid hF
  simp only [encP] at hcs
  rw [hcs]
  by_cases hc : c = 0
  · subst hc
    have HD := Lib.hid (HF.out rfl)
    have HV : Hid (doneI r id = x) := by show _ = _; rw [← hx]; rfl
    rw [HV.out] at HD
    clear hC hF HF hx
    go_enter Tryz.func11, Tryz.ntmps11
    rw [← hcs]
    clear hcs
    have HX := Lib.hid (BoxR.init w cs 35)
    have x1 := HX.out.box HI
    have x2 := HX.out.rowAt
    go_wp2_with (first
      | (go_at_call 9; refine (HC.out _ HX.out.b).mono ?_; rintro _ w1 ⟨rfl, hb⟩; have HX := Lib.hid (HX.out.next hb); clear hb; have x1 := HX.out.box HI; have x2 := HX.out.rowAt)
      | (go_at_call 39; refine (HD.out _ HX.out.b).mono ?_; rintro _ w2 ⟨rfl, hb⟩; have HX := Lib.hid (HX.out.next hb); clear hb; have x1 := HX.out.box HI; have x2 := HX.out.rowAt))
    go_ret
    exact ⟨rfl, HX.out.b⟩
  · have hcb : (c == 0) = false := beq_eq_false_iff_ne.2 hc
    have HV : Hid (x = false) := by show _ = _; rw [← hx, hcb]; rfl
    clear hC hF HF hx hc
    go_enter Tryz.func11, Tryz.ntmps11
    rw [← hcs]
    clear hcs
    have HX := Lib.hid (BoxR.init w cs 35)
    have x1 := HX.out.box HI
    have x2 := HX.out.rowAt
    go_wp2_with (first
      | (go_at_call 9; refine (HC.out _ HX.out.b).mono ?_; rintro _ w1 ⟨rfl, hb⟩; have HX := Lib.hid (HX.out.next hb); clear hb; have x1 := HX.out.box HI; have x2 := HX.out.rowAt))
    go_ret
    exact ⟨ret_bool HV.out.symm, HX.out.b⟩
set_option maxHeartbeats 4000000 in
theorem rDone_core (r : RP) (id : Int) (w : World) (c : Int) (hD : RdK encW 1 w.heap.size w r.d.A r.d.z) (hDD : ∀ i, i < r.d.z.size → RdK encR 2 w.heap.size w r.d.z[i]!.A r.d.z[i]!.z) (hn : c = 0 → (r.d.z.size : Int) = r.n) (hz : r.d.z.size ≤ 1000)
    (hC : ∀ W, Below w.heap.size w W → Calls Tryz.prog 10 #[.agg (encP r).toArray] W fun e w' => e = .returned (.int .i64 c) ∧ Below W.heap.size W w') :
    Calls Tryz.prog 12 #[.agg (encP r).toArray, .int .i64 id] w fun e w' => e = .returned (.bool ((c == 0) && doneI r id)) ∧ Below w.heap.size w w' := by
  have HC := Lib.hid hC
  obtain ⟨x, hx⟩ : ∃ x, ((c == 0) && doneI r id) = x := ⟨_, rfl⟩
  rw [hx]
  obtain ⟨sf, hsf⟩ : ∃ s, selfN_I id = s := ⟨_, rfl⟩
  obtain ⟨sq, hsq⟩ : ∃ s, seqN_I id = s := ⟨_, rfl⟩
  have HS : Hid (∀ W, Calls Tryz.prog 36 #[.int .i64 id] W fun e w' => e = .returned (.tuple #[.int .i64 sf, .int .i64 sq]) ∧ W = w') := fun W => hsf ▸ hsq ▸ rSplit_any_I id W
  have HDN : Hid (x = ((c == 0) && (decide (1 ≤ sf ∧ sf ≤ r.n) && hasB_R r.d.z[sf.toNat - 1]!.z sq))) := by show _ = _; rw [← hx]; unfold doneI; rw [hsf, hsq]
  obtain ⟨cs, hcs⟩ : ∃ cs, cs = (encP r).toArray := ⟨_, rfl⟩
  have HI : cs.size = 18 := by rw [hcs]; rfl
  have HZ : (Tryz.prog.info? 35).map (·.size) = some cs.size := by rw [HI]; kernel_rfl
  have q0 : cs[0]? = some (.int .i64 r.n) := by rw [hcs]; rfl
  have q12 : cs[12]? = some (.slice r.d.A r.d.z.size r.d.c) := by rw [hcs]; rfl
  rw [← hcs] at HC ⊢
  have HQ0 := Lib.hid q0
  have HRD := Lib.hid hD
  have HRR := Lib.hid hDD
  have HN := Lib.hid hn
  simp only [encP] at hcs
  rw [hcs]
  clear hC hx hsf hsq q0 hD hDD hn
  by_cases hc : c = 0
  · subst hc
    have hn := HN.out rfl
    by_cases h1 : 1 ≤ sf ∧ sf ≤ r.n
    · obtain ⟨k, hk⟩ : ∃ k : Nat, sf = (k : Int) + 1 := ⟨(sf - 1).toNat, by omega⟩
      have hkd : k < r.d.z.size := by omega
      have kd : (k : Int) < (r.d.z.size : Int) := by omega
      have HV : Hid (x = hasB_R r.d.z[k]!.z sq) := by
        show _ = _
        rw [HDN.out, decide_eq_true h1, show sf.toNat - 1 = k by omega]
        rfl
      obtain ⟨b2, off2, hA2, hbl2, f2⟩ := HRD.out.at_ (i := k) (by omega)
      have g0 := f2 0 (by omega)
      have HR2 := Lib.hid (HRR.out k hkd)
      obtain ⟨u, hu⟩ : ∃ u, r.d.z[k]! = u := ⟨_, rfl⟩
      rw [hu] at g0 HR2 HV
      rw [hA2] at q12
      have HQ12 := Lib.hid q12
      have h2 := h1.2
      subst hk
      clear f2 hu HDN h1 hA2 q12 HRD HRR HN hn
      simp only [Nat.add_zero, Nat.mul_one, encW, RW.v, List.getElem!_cons_zero] at g0
      go_enter Tryz.func12, Tryz.ntmps12
      rw [← hcs]
      clear hcs
      have HX := Lib.hid (BoxR.init w cs 35)
      have x1 := HX.out.box HI
      have x2 := HX.out.rowAt
      go_wp2_with (first
        | (go_at_call 36; refine (HS.out _).mono ?_; rintro _ _ ⟨rfl, rfl⟩)
        | (go_at_call 10; refine (HC.out _ HX.out.b).mono ?_; rintro _ w1 ⟨rfl, hb⟩; have HX := Lib.hid (HX.out.next hb); clear hb; have x1 := HX.out.box HI; have x2 := HX.out.rowAt; have c0 := HX.out.at_ 0 HQ0.out; have c12 := HX.out.at_ 12 HQ12.out; have g0 := (HX.out.b.cell (p := ⟨b2, off2 + k, none⟩) hbl2).trans g0)
        | (go_at_call 40; refine (r4Has_any u.A u.c u.z sq w.heap.size _ (HR2.out.below HX.out.b)).mono ?_; rintro _ w2 ⟨rfl, hb⟩; have HX := Lib.hid (HX.out.next hb); clear hb; have x1 := HX.out.box HI; have x2 := HX.out.rowAt))
      go_ret
      exact ⟨ret_bool HV.out.symm, HX.out.b⟩
    · have HV : Hid (x = false) := by show _ = _; rw [HDN.out, decide_eq_false h1]; rfl
      clear HDN HRD HRR HN hn
      by_cases h3 : 0 < sf
      · have h3' : decide (0 < sf) = true := decide_eq_true h3
        have h4' : decide (sf ≤ r.n) = false := by simp; omega
        clear h1 h3
        go_enter Tryz.func12, Tryz.ntmps12
        rw [← hcs]
        clear hcs
        have HX := Lib.hid (BoxR.init w cs 35)
        have x1 := HX.out.box HI
        have x2 := HX.out.rowAt
        go_wp2_with (first
          | (go_at_call 36; refine (HS.out _).mono ?_; rintro _ _ ⟨rfl, rfl⟩)
          | (go_at_call 10; refine (HC.out _ HX.out.b).mono ?_; rintro _ w1 ⟨rfl, hb⟩; have HX := Lib.hid (HX.out.next hb); clear hb; have x1 := HX.out.box HI; have x2 := HX.out.rowAt; have c0 := HX.out.at_ 0 HQ0.out))
        go_ret
        exact ⟨ret_bool HV.out.symm, HX.out.b⟩
      · have h3' : decide (0 < sf) = false := decide_eq_false h3
        clear h1 h3
        go_enter Tryz.func12, Tryz.ntmps12
        rw [← hcs]
        clear hcs
        have HX := Lib.hid (BoxR.init w cs 35)
        have x1 := HX.out.box HI
        have x2 := HX.out.rowAt
        go_wp2_with (first
          | (go_at_call 36; refine (HS.out _).mono ?_; rintro _ _ ⟨rfl, rfl⟩)
          | (go_at_call 10; refine (HC.out _ HX.out.b).mono ?_; rintro _ w1 ⟨rfl, hb⟩; have HX := Lib.hid (HX.out.next hb); clear hb; have x1 := HX.out.box HI; have x2 := HX.out.rowAt))
        go_ret
        exact ⟨ret_bool HV.out.symm, HX.out.b⟩
  · have hcb : (c == 0) = false := beq_eq_false_iff_ne.2 hc
    have HV : Hid (x = false) := by show _ = _; rw [HDN.out, hcb]; rfl
    clear HDN HRD HRR HN hc
    go_enter Tryz.func12, Tryz.ntmps12
    rw [← hcs]
    clear hcs
    have HX := Lib.hid (BoxR.init w cs 35)
    have x1 := HX.out.box HI
    have x2 := HX.out.rowAt
    go_wp2_with (first
      | (go_at_call 36; refine (HS.out _).mono ?_; rintro _ _ ⟨rfl, rfl⟩)
      | (go_at_call 10; refine (HC.out _ HX.out.b).mono ?_; rintro _ w1 ⟨rfl, hb⟩; have HX := Lib.hid (HX.out.next hb); clear hb; have x1 := HX.out.box HI; have x2 := HX.out.rowAt))
    go_ret
    exact ⟨ret_bool HV.out.symm, HX.out.b⟩
end Go.Proofs.YtnmojicfmcbgmaaGreat
