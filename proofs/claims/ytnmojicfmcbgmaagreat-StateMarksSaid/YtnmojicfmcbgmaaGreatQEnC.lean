/- Answers that may be: rubatoref20.had, entry.acks; entry.numbers, entry.told, size.Count. May a command be: entry.Check, and the document's answer rubatoref20.Check. May a command be, as the document says: rubatoref20.Check. -/
import Derived.Deep.CutRange
import Derived.Test.YtnmojicfmcbgmaaGreatQEnB
import Derived.Test.YtnmojicfmcbgmaaGreatQRead
import Derived.Test.YtnmojicfmcbgmaaGreatQBase
namespace Go.Proofs.YtnmojicfmcbgmaaGreat
open Go.RowKit Go.Sort Go.Lib
set_option maxRecDepth 100000
theorem beqI_E (a b : Int) : (a == b) = decide (a = b) := by by_cases h : a = b <;> simp [h]
set_option maxHeartbeats 4000000 in
theorem had_any (A : Option Addr) (c n : Nat) (z : Array AK) (q : AK) (w : World) (h : RdK encK 6 w.heap.size w A z) (hn : n ≤ z.size) (hs : z.size ≤ 1000000) :
    Calls Tryz.prog 139 #[.slice A n c, .agg (encK q).toArray] w fun e w' => e = .returned (.bool (hadN z n q)) ∧ Below w.heap.size w w' := by
  have HR := Lib.hid h
  clear h
  have HAD : Hid (hadN z n q = hadN z n q) := rfl
  have hbx : ∀ W, Below (w.alloc (.cells (encK q).toArray 127)).heap.size (w.alloc (.cells (encK q).toArray 127)) W → ∀ j, W.cell? ⟨w.heap.size, j, none⟩ = (encK q).toArray[j]? := fun W hb j => (hb.cell (p := ⟨w.heap.size, j, none⟩) (by simp)).trans (cell_new w _ _ j)
  have HBX := Lib.hid hbx
  have HB0 := Lib.hid (bel1 w (.cells (encK q).toArray 127))
  have HSZ : Hid ((w.alloc (.cells (encK q).toArray 127)).heap.size = w.heap.size + 1) := by show _ = _; simp
  clear hbx
  obtain ⟨kind, frm, bal, t, abal, ph⟩ := q
  simp only [encK] at HBX HB0 HSZ ⊢
  go_enter Tryz.func139, Tryz.ntmps139
  go_wp2
  generalize w.alloc (.cells #[.int .i64 kind, .int .i64 frm, .int .i64 bal, .int .i64 t, .int .i64 abal, .int .i64 ph] 127) = w0 at HBX HB0 HSZ ⊢
  go_loopw [5] (fun i wr => ∃ k : Nat, i = .int .i64 k ∧ k ≤ n ∧ Hid (∀ j, j < k → qB z[j]! ⟨kind, frm, bal, t, abal, ph⟩ = false) ∧ Hid (Below w0.heap.size w0 wr)) (fun i _ => n - (intOf i).toNat)
  case atStart => exact ⟨0, rfl, Nat.zero_le _, Lib.hid (fun j hj => absurd hj (by omega)), Lib.hid (Below.refl _ _)⟩
  case round =>
    obtain ⟨k, rfl, hk, hall, HB⟩ := hrel
    have HBW := Lib.hid (HB0.out.trans (HB.out.mono HB0.out.size))
    by_cases hlt : k < n
    · have kz : (k : Int) < (n : Int) := by omega
      obtain ⟨b, off, rfl, hbl, f⟩ := (HR.out.below HBW.out).at_ (i := k) (by omega)
      have hbw : b < wr.heap.size := Nat.lt_of_lt_of_le hbl HBW.out.size
      have hgw : w.heap.size < wr.heap.size := Nat.lt_of_lt_of_le (by rw [HSZ.out]; omega) HB.out.size
      have e0 := f 0 (by omega)
      have e1 := f 1 (by omega)
      have e2 := f 2 (by omega)
      have hb := HBX.out wr HB.out
      obtain ⟨x, hx⟩ : ∃ x, z[k]! = x := ⟨_, rfl⟩
      rw [hx] at e0 e1 e2
      have HX := Lib.hid hx
      simp only [Nat.add_zero, encK, List.getElem!_cons_zero, List.getElem!_cons_succ] at e0 e1 e2
      have q0 := fun p : ExtW wr => p.cell (a := ⟨b, off + k * 6, none⟩) hbw e0
      have q1 := fun p : ExtW wr => p.cell (a := ⟨b, off + k * 6 + 1, none⟩) hbw e1
      have q2 := fun p : ExtW wr => p.cell (a := ⟨b, off + k * 6 + 2, none⟩) hbw e2
      have a0 := fun p : ExtW wr => p.cell (a := ⟨w.heap.size, 0, none⟩) hgw (hb 0)
      have a1 := fun p : ExtW wr => p.cell (a := ⟨w.heap.size, 1, none⟩) hgw (hb 1)
      have a2 := fun p : ExtW wr => p.cell (a := ⟨w.heap.size, 2, none⟩) hgw (hb 2)
      have HQ : Hid (qB z[k]! ⟨kind, frm, bal, t, abal, ph⟩ = decide (x.kind = kind ∧ x.frm = frm ∧ x.bal = bal)) := by show _ = _; rw [HX.out]; rfl
      clear f e0 e1 e2 hb hx HX
      have hcase : (∃ g1 g2 g3 : Bool, (x.kind == kind) = g1 ∧ (x.frm == frm) = g2 ∧ (x.bal == bal) = g3) := ⟨_, _, _, rfl, rfl, rfl⟩
      obtain ⟨g1, g2, g3, h1, h2, h3⟩ := hcase
      have HG : Hid (qB z[k]! ⟨kind, frm, bal, t, abal, ph⟩ = (g1 && (g2 && g3))) := by
        show _ = _
        rw [HQ.out, ← h1, ← h2, ← h3, Bool.decide_and, Bool.decide_and]
        simp only [beqI_E]
      clear HQ
      cases g1 <;> cases g2 <;> cases g3
      all_goals
        go_wp2_with fail
        refine wp_region_ext (by kernel_rfl) (by kernel_rfl) ?_
        repeat (first | go_big_quiet_step (fail) | quiet_step (fail))
        refine wpQuiet_nil ?_
        intro w' hw'
        obtain ⟨⟨W, hbW⟩, hw''⟩ := hw'
        have hw3 : w' = W := hw''
        subst hw3
        have HW := Lib.hid (HB.out.trans (hbW.mono HB.out.size))
        clear hbW hw'' q0 q1 q2 a0 a1 a2
        go_wp2
        first
          | (go_roundw
             case rel =>
               refine ⟨k + 1, by go_num, by omega, Lib.hid (fun j hj => ?_), HW⟩
               rcases Nat.lt_or_ge j k with h | h
               · exact hall.out j h
               · obtain rfl : j = k := by omega
                 exact HG.out
             case measure => simp [intOf]; omega)
          | (go_ret
             exact ⟨ret_bool (hadN_yes k (by omega) HG.out).symm, HB0.out.trans (HW.out.mono HB0.out.size)⟩)
    · have hlt' : decide ((k : Int) < (n : Int)) = false := by simp; omega
      go_wp2
      go_ret
      exact ⟨ret_bool (hadN_no fun j hj => hall.out j (by omega)).symm, HBW.out⟩
/-- The answers may be: each may be, none of the same question ahead of it. -/
def goodK (z : Array AK) : Bool := (List.range z.size).all fun i => ackB z[i]! && !hadN z i z[i]!
theorem goodK_no {z : Array AK} (i : Nat) (hi : i < z.size) (h : (ackB z[i]! && !hadN z i z[i]!) = false) : goodK z = false := by
  unfold goodK
  rw [List.all_eq_false]
  exact ⟨i, List.mem_range.2 hi, by rw [h]; exact Bool.false_ne_true⟩
theorem goodK_yes {z : Array AK} (h : ∀ i, i < z.size → (ackB z[i]! && !hadN z i z[i]!) = true) : goodK z = true := by
  unfold goodK
  rw [List.all_eq_true]
  exact fun i hi => h i (List.mem_range.1 hi)
set_option maxHeartbeats 4000000 in
theorem acks_any (A : Option Addr) (c : Nat) (z : Array AK) (w : World) (h : RdK encK 6 w.heap.size w A z) (hc : z.size ≤ c) (hs : z.size ≤ 100) :
    Calls Tryz.prog 164 #[.slice A z.size c] w fun e w' => e = .returned (.bool (goodK z && decide (z.size ≤ 27))) ∧ Below w.heap.size w w' := by
  have HR := Lib.hid h
  clear h
  go_enter Tryz.func164, Tryz.ntmps164
  go_wp2
  go_loopw [8] (fun i wr => ∃ k : Nat, i = .int .i64 k ∧ k ≤ z.size ∧ Hid (∀ j, j < k → (ackB z[j]! && !hadN z j z[j]!) = true) ∧ Hid (Below w.heap.size w wr)) (fun i _ => z.size - (intOf i).toNat)
  case atStart => exact ⟨0, rfl, Nat.zero_le _, Lib.hid (fun j hj => absurd hj (by omega)), Lib.hid (Below.refl _ _)⟩
  case round =>
    obtain ⟨k, rfl, hk, hall, HB⟩ := hrel
    by_cases hlt : k < z.size
    · have kz : (k : Int) < (z.size : Int) := by omega
      obtain ⟨b, off, rfl, hbl, f⟩ := (HR.out.below HB.out).at_ (i := k) (by omega)
      have e0 := f 0 (by omega)
      have e1 := f 1 (by omega)
      have e2 := f 2 (by omega)
      have e3 := f 3 (by omega)
      have e4 := f 4 (by omega)
      have e5 := f 5 (by omega)
      have HO := Lib.hid (fun W => of_any z[k]! W)
      have HA := Lib.hid (fun W => answer_any z[k]! W)
      have HC := Lib.hid (fun W (hb : Below w.heap.size w W) => ConAck_any (some ⟨b, off, none⟩) c k z z[k]! W ((HR.out.below hb).mono hb.size) (by omega) (by omega))
      obtain ⟨g1, hg1⟩ : ∃ g, ackB z[k]! = g := ⟨_, rfl⟩
      obtain ⟨g2, hg2⟩ : ∃ g, hadN z k z[k]! = g := ⟨_, rfl⟩
      rw [hg1] at HA
      rw [hg2] at HC
      have HG : Hid ((ackB z[k]! && !hadN z k z[k]!) = (g1 && !g2)) := by show _ = _; rw [hg1, hg2]
      clear hg1 hg2
      obtain ⟨x, hx⟩ : ∃ x, z[k]! = x := ⟨_, rfl⟩
      rw [hx] at e0 e1 e2 e3 e4 e5 HO HA HC
      clear f hx
      obtain ⟨kind, frm, bal, t, abal, ph⟩ := x
      simp only [encK, Nat.add_zero, List.getElem!_cons_zero, List.getElem!_cons_succ] at e0 e1 e2 e3 e4 e5 HO HA HC
      have kc : (k : Int) ≤ (c : Int) := by omega
      have HBX := Lib.hid (fun W (hb : Below (wr.alloc (.cells #[.int .i64 kind, .int .i64 frm, .int .i64 bal, .int .i64 t, .int .i64 abal, .int .i64 ph] 127)).heap.size (wr.alloc (.cells #[.int .i64 kind, .int .i64 frm, .int .i64 bal, .int .i64 t, .int .i64 abal, .int .i64 ph] 127)) W) (j : Nat) => (hb.cell (p := ⟨wr.heap.size, j, none⟩) (by simp)).trans (cell_new wr #[.int .i64 kind, .int .i64 frm, .int .i64 bal, .int .i64 t, .int .i64 abal, .int .i64 ph] _ j))
      have HBB := Lib.hid (belAlloc HB.out (.cells #[.int .i64 kind, .int .i64 frm, .int .i64 bal, .int .i64 t, .int .i64 abal, .int .i64 ph] 127))
      go_wp2_with fail
      refine (HO.out _).mono ?_
      rintro e w1 ⟨rfl, hb1⟩
      have a0 := HBX.out w1 hb1 0
      have a1 := HBX.out w1 hb1 1
      have a2 := HBX.out w1 hb1 2
      have a3 := HBX.out w1 hb1 3
      have a4 := HBX.out w1 hb1 4
      have a5 := HBX.out w1 hb1 5
      have HB1 := Lib.hid hb1
      clear hb1
      go_wp2_with fail
      refine (HA.out _).mono ?_
      rintro e w2 ⟨rfl, hb2⟩
      have HB2 := Lib.hid (belStep HBB.out (belStep HB1.out hb2))
      clear hb2 HO HA HBX
      cases g1
      · go_wp2
        go_ret
        refine ⟨ret_bool ?_, HB2.out⟩
        rw [goodK_no k hlt (by rw [HG.out]; rfl)]; rfl
      · go_wp2_with fail
        refine (HC.out _ HB2.out).mono ?_
        rintro e w3 ⟨rfl, hb3⟩
        have HB3 := Lib.hid (belStep HB2.out hb3)
        clear hb3 HC
        cases g2
        · go_wp2
          go_roundw
          case rel =>
            refine ⟨k + 1, by go_num, by omega, Lib.hid (fun j hj => ?_), HB3⟩
            rcases Nat.lt_or_ge j k with h | h
            · exact hall.out j h
            · obtain rfl : j = k := by omega
              exact HG.out
          case measure => simp [intOf]; omega
        · go_wp2
          go_ret
          refine ⟨ret_bool ?_, HB3.out⟩
          rw [goodK_no k hlt (by rw [HG.out]; rfl)]; rfl
    · have hlt' : decide ((k : Int) < (z.size : Int)) = false := by simp; omega
      have HG : Hid (goodK z = true) := goodK_yes fun i hi => hall.out i (by omega)
      go_wp2
      go_ret
      refine ⟨ret_bool ?_, HB.out⟩
      rw [HG.out]
      simp <;> omega
end Go.Proofs.YtnmojicfmcbgmaaGreat
namespace Go.Proofs.YtnmojicfmcbgmaaGreat
open Go.RowKit Go.Sort Go.Lib
set_option maxRecDepth 100000
def numsP (e : EN) : Prop := 0 ≤ e.t ∧ e.t ≤ 1000000 ∧ 0 ≤ e.bal ∧ e.bal ≤ 1000000 ∧ 0 ≤ e.abal ∧ e.abal ≤ e.bal ∧ 0 ≤ e.seen ∧ e.seen ≤ 1000000 ∧ 0 ≤ e.age ∧ e.age ≤ 1000000
instance (e : EN) : Decidable (numsP e) := by unfold numsP; infer_instance
/-- A command's time and ballots agree with its phase. -/
def toldP (e : EN) : Prop := (((2 ≤ e.ph ∧ e.ph ≤ 4) ∨ e.ph = 5 ∨ e.ph = 6 ∨ 0 < e.abal) ↔ 0 < e.t) ∧ (0 < e.abal ∨ e.ph = 5 ∨ e.ph = 6 ∨ (0 < e.bal ↔ (e.ph = 3 ∨ e.ph = 4)))
instance (e : EN) : Decidable (toldP e) := by unfold toldP; infer_instance
/-- What a command's numbers must be. -/
def headP (e : EN) : Prop := 10 ≤ e.id ∧ e.id ≤ 999999 ∧ e.id % 10 ≠ 0 ∧ 1 ≤ e.ph ∧ e.ph ≤ 6 ∧ 1 ≤ e.qu ∧ e.qu ≤ 511 ∧ e.pay.size ≤ 300
instance (e : EN) : Decidable (headP e) := by unfold headP; infer_instance
def chkEn (e : EN) : Bool := decide (headP e) && decide (numsP e) && decide (toldP e) && (goodK e.z && decide (e.z.size ≤ 27)) && decide (5 ≤ e.ph → e.z.size = 0)
def enE (e : EN) : Int := if chkEn e = true then 0 else 2
/-- A box that was made at w, of these cells, in a world that has only grown. -/
structure BoxW (w : World) (cs : Array Value) (W : World) : Prop where
  b : Below w.heap.size w W
  lt : w.heap.size < W.heap.size
  at_ : ∀ j, W.cell? ⟨w.heap.size, j, none⟩ = cs[j]?
theorem BoxW.init (w : World) (cs : Array Value) (t : TypeId) : BoxW w cs (w.alloc (.cells cs t)) := ⟨bel1 w _, by simp, fun j => cell_new w cs t j⟩
theorem BoxW.next {w W W' : World} {cs : Array Value} (h : BoxW w cs W) (hb : Below W.heap.size W W') : BoxW w cs W' :=
  ⟨belStep h.b hb, Nat.lt_of_lt_of_le h.lt hb.size, fun j => (hb.cell (p := ⟨w.heap.size, j, none⟩) h.lt).trans (h.at_ j)⟩
theorem checkE_bool (id : Int) : (checkE id != 0) = !decide (10 ≤ id ∧ id ≤ 999999 ∧ id % 10 ≠ 0) := by
  unfold checkE
  by_cases h : id < 10 ∨ 999999 < id ∨ id % 10 = 0
  · rw [if_pos h, decide_eq_false (by omega)]; rfl
  · rw [if_neg h, decide_eq_true (by omega)]; rfl
section
variable (e : EN)
set_option maxHeartbeats 4000000 in
theorem nums_any (w : World) : Calls Tryz.prog 162 #[.agg (encE e).toArray] w fun r w' => r = .returned (.bool (decide (numsP e))) ∧ Below w.heap.size w w' := by
  have hb : Below w.heap.size w (w.alloc (.cells (encE e).toArray 60)) := bel1 w _
  obtain ⟨id, ph, qu, t, bal, abal, seen, age, pay, A, c, z⟩ := e
  simp only [encE] at hb ⊢
  go_enter Tryz.func162, Tryz.ntmps162
  go_wp2_with (go_at_call 180; refine (within_any _ _ _).mono ?_; rintro e w' ⟨rfl, rfl⟩)
  all_goals
    go_ret
    refine ⟨ret_dec ?_, hb⟩
    simp only [numsP, withB, decide_eq_true_eq, decide_eq_false_iff_not, Bool.false_eq_true, false_iff] at *
    omega
set_option maxHeartbeats 4000000 in
theorem told_any (w : World) : Calls Tryz.prog 163 #[.agg (encE e).toArray] w fun r w' => r = .returned (.bool (decide (toldP e))) ∧ Below w.heap.size w w' := by
  obtain ⟨id, ph, qu, t, bal, abal, seen, age, pay, A, c, z⟩ := e
  simp only [encE]
  go_enter Tryz.func163, Tryz.ntmps163
  go_wp2_with (first | (go_at_call 181; refine (phProp_any _ _).mono ?_; rintro e w' ⟨rfl, rfl⟩) | (go_at_call 151; refine (phSetl_any _ _).mono ?_; rintro e w' ⟨rfl, rfl⟩))
  all_goals
    go_ret
    refine ⟨ret_dec ?_, bel1 w _⟩
    simp only [toldP, propB, setlB, decide_eq_true_eq, decide_eq_false_iff_not] at *
    grind
set_option maxHeartbeats 8000000 in
theorem eCheck_any (w : World) (hr : RdE w e) (hc : e.z.size ≤ e.c) : Calls Tryz.prog 121 #[.agg (encE e).toArray] w fun r w' => r = .returned (.int .i64 (enE e)) ∧ Below w.heap.size w w' := by
  have HK := Lib.hid (fun W (hb : Below w.heap.size w W) => acks_any e.A e.c e.z W (hr.below hb).rd hc hr.sz)
  have HN := Lib.hid (fun W => nums_any e W)
  have HT := Lib.hid (fun W => told_any e W)
  have HX := Lib.hid (BoxW.init w (encE e).toArray 60)
  have hid := checkE_bool e.id
  have hcn := cntN_zero e.qu
  have HP := Lib.hid hr.pz
  have hps : (e.pay.size : Int) ≤ 1000 := by have := hr.pz; omega
  clear hr hc
  simp only [encE] at HN HT HX ⊢
  go_enter Tryz.func121, Tryz.ntmps121
  go_wp2_with (first
    | (go_at_call 160; refine (phOpen_any _ _).mono ?_; rintro _ _ ⟨rfl, rfl⟩)
    | (go_at_call 151; refine (phSetl_any _ _).mono ?_; rintro _ _ ⟨rfl, rfl⟩)
    | (go_at_call 86; refine (Check_any_I _ _).mono ?_; rintro _ _ ⟨rfl, rfl⟩)
    | (go_at_call 161; refine (CountI_any _ _).mono ?_; rintro _ _ ⟨rfl, rfl⟩)
    | (go_at_call 162; refine (HN.out _).mono ?_; rintro _ w1 ⟨rfl, hb⟩; have HX := Lib.hid (HX.out.next hb); clear hb; have c0 := HX.out.at_ 0; have c1 := HX.out.at_ 1; have c2 := HX.out.at_ 2; have c3 := HX.out.at_ 3; have c4 := HX.out.at_ 4; have c5 := HX.out.at_ 5; have c6 := HX.out.at_ 6; have c7 := HX.out.at_ 7; have c8 := HX.out.at_ 8; have c9 := HX.out.at_ 9)
    | (go_at_call 163; refine (HT.out _).mono ?_; rintro _ w2 ⟨rfl, hb⟩; have HX := Lib.hid (HX.out.next hb); clear hb; have c1 := HX.out.at_ 1; have c9 := HX.out.at_ 9)
    | (go_at_call 164; refine (HK.out _ HX.out.b).mono ?_; rintro _ w3 ⟨rfl, hb⟩; have HX := Lib.hid (HX.out.next hb); clear hb; have c1 := HX.out.at_ 1; have c9 := HX.out.at_ 9))
  all_goals
    go_ret
    refine ⟨ret_int ?_, HX.out.b⟩

    simp only [enE, chkEn, headP, openB, setlB, decide_eq_true_eq, decide_eq_false_iff_not] at *
    grind
end
end Go.Proofs.YtnmojicfmcbgmaaGreat
namespace Go.Proofs.YtnmojicfmcbgmaaGreat
open Go.RowKit Go.Sort Go.Lib
set_option maxRecDepth 100000
theorem selfN_bool (id : Int) : (selfN_I id == 0) = !decide (10 ≤ id ∧ id ≤ 999999 ∧ id % 10 ≠ 0) := by
  unfold selfN_I
  by_cases h : id < 10 ∨ 999999 < id ∨ id % 10 = 0
  · rw [if_pos h, decide_eq_false (by omega)]; rfl
  · rw [if_neg h, decide_eq_true (by omega)]; exact beq_eq_false_iff_ne.2 (by omega)
section
variable (e : EN)
theorem chkEn_iff : chkEn e = true ↔ headP e ∧ numsP e ∧ toldP e ∧ e.z.size ≤ 27 ∧ goodK e.z = true ∧ (5 ≤ e.ph → e.z.size = 0) := by
  unfold chkEn
  simp only [Bool.and_eq_true, decide_eq_true_eq]
  constructor
  · rintro ⟨⟨⟨⟨a, b⟩, c⟩, d, f⟩, g⟩; exact ⟨a, b, c, f, d, g⟩
  · rintro ⟨a, b, c, f, d, g⟩; exact ⟨⟨⟨⟨a, b⟩, c⟩, d, f⟩, g⟩
set_option maxHeartbeats 8000000 in
theorem rCheck_any (w : World) (hr : RdE w e) (hc : e.z.size ≤ e.c) : Calls Tryz.prog 87 #[.agg (encE e).toArray] w fun r w' => r = .returned (.int .i64 (enE e)) ∧ Below w.heap.size w w' := by
  have HX := Lib.hid (BoxW.init w (encE e).toArray 60)
  have HSP := Lib.hid (fun W => rSplit_any_I e.id W)
  have z0 := selfN_bool e.id
  have HR := Lib.hid hr
  have HC := Lib.hid hc
  have hps : (e.pay.size : Int) ≤ 1000 := by have := hr.pz; omega
  have hzs : (e.z.size : Int) ≤ 100 := by have := hr.sz; omega
  clear hr hc
  by_cases hh : headP e ∧ numsP e ∧ toldP e ∧ e.z.size ≤ 27
  · have HH := Lib.hid hh
    have HE : Hid (enE e = if goodK e.z = true ∧ (5 ≤ e.ph → e.z.size = 0) then 0 else 2) := by
      have hi := chkEn_iff e
      show _ = _
      unfold enE
      by_cases hc : goodK e.z = true ∧ (5 ≤ e.ph → e.z.size = 0)
      · rw [if_pos hc, if_pos (hi.2 ⟨hh.1, hh.2.1, hh.2.2.1, hh.2.2.2, hc⟩)]
      · rw [if_neg hc, if_neg fun h => hc (hi.1 h).2.2.2.2]
    clear hh
    generalize selfN_I e.id = sf at z0 HSP
    simp only [encE] at HX ⊢
    go_enter Tryz.func87, Tryz.ntmps87
    go_wp2_with fail
    refine (HSP.out _).mono ?_
    rintro _ _ ⟨rfl, rfl⟩
    generalize w.alloc (.cells #[.int .i64 e.id, .int .i64 e.ph, .int .i64 e.qu, .int .i64 e.t, .int .i64 e.bal, .int .i64 e.abal, .int .i64 e.seen, .int .i64 e.age, .string e.pay, .slice e.A e.z.size e.c] 60) = w0 at HX ⊢
    have c1 := HX.out.at_ 1
    have c2 := HX.out.at_ 2
    have c3 := HX.out.at_ 3
    have c4 := HX.out.at_ 4
    have c5 := HX.out.at_ 5
    have c6 := HX.out.at_ 6
    have c7 := HX.out.at_ 7
    have c8 := HX.out.at_ 8
    have c9 := HX.out.at_ 9
    obtain ⟨⟨d1, d2, d3, d4, d5, d6, d7, d8⟩, ⟨d9, d10, d11, d12, d13, d14, d15, d16, d17, d18⟩, _, d19⟩ := HH.out
    have z0' : (sf == 0) = false := by rw [z0, decide_eq_true ⟨d1, d2, d3⟩]; rfl
    clear z0 d1 d2 d3
    go_upto_region 6 with fail
    go_cut [107] from 96 to 107 (fun v wx => v = .bool false ∧ wx = w0)
    case first =>
      have HT := Lib.hid HH.out.2.2.1
      clear d7 d8 d14 d15 d16 d17 d18 d19 d11 d12
      go_wp2
      all_goals first
        | (go_meet; exact ⟨rfl, rfl⟩)
        | (go_meet; refine ⟨congrArg Value.bool ?_, rfl⟩; have hh := HT.out; clear HX HSP HR HC HH HE HT c1 c2 c3 c4 c5 c6 c7 c8 c9; simp only [toldP] at * <;> grind)
        | (exfalso
           have hh := HT.out
           clear HX HSP HR HC HH HE HT c1 c2 c3 c4 c5 c6 c7 c8 c9
           simp only [toldP] at * <;> grind)
    case rest =>
      obtain ⟨rfl, rfl⟩ := hcut
      go_upto_region 8 with fail
      go_cut [135] from 108 to 135 (fun v wx => v = .bool false ∧ wx = wc)
      case first =>
        have HT := Lib.hid HH.out.2.2.1
        clear d7 d8 d14 d15 d16 d17 d18 d19 d11 d12
        obtain ⟨g1, h1⟩ : ∃ g, (e.abal == 0) = g := ⟨_, rfl⟩
        obtain ⟨g2, h2⟩ : ∃ g, (e.ph == 3) = g := ⟨_, rfl⟩
        obtain ⟨g3, h3⟩ : ∃ g, (e.ph == 4) = g := ⟨_, rfl⟩
        cases g1 <;> cases g2 <;> cases g3
        all_goals go_wp2
        all_goals first
          | (go_meet; exact ⟨rfl, rfl⟩)
          | (go_meet; refine ⟨congrArg Value.bool ?_, rfl⟩; have hh := HT.out; clear HX HSP HR HC HH HE HT c1 c2 c3 c4 c5 c6 c7 c8 c9; simp only [toldP] at * <;> grind)
          | (exfalso
             have hh := HT.out
             clear HX HSP HR HC HH HE HT c1 c2 c3 c4 c5 c6 c7 c8 c9
             simp only [toldP] at * <;> grind)
      case rest =>
        obtain ⟨rfl, rfl⟩ := hcut
        clear c1 c2 c3 c4 c5 c6 c7 c8 c9 d4 d5 d6 d7 d8 d9 d10 d11 d12 d13 d14 d15 d16 d17 d18 d19
        go_wp2
        go_loopw [5] (fun i wr => ∃ k : Nat, i = .int .i64 k ∧ k ≤ e.z.size ∧ Hid (0 < k → e.ph < 5) ∧ Hid (∀ j, j < k → (ackB e.z[j]! && !hadN e.z j e.z[j]!) = true) ∧ Hid (BoxW w #[.int .i64 e.id, .int .i64 e.ph, .int .i64 e.qu, .int .i64 e.t, .int .i64 e.bal, .int .i64 e.abal, .int .i64 e.seen, .int .i64 e.age, .string e.pay, .slice e.A e.z.size e.c] wr)) (fun i _ => e.z.size - (intOf i).toNat)
        case atStart => exact ⟨0, rfl, Nat.zero_le _, Lib.hid (fun h => absurd h (by omega)), Lib.hid (fun j hj => absurd hj (by omega)), HX⟩
        case round =>
          obtain ⟨k, rfl, hk, hph, hall, HB⟩ := hrel
          have hlw := HB.out.lt
          have c1 := HB.out.at_ 1
          have c9 := HB.out.at_ 9
          by_cases hlt : k < e.z.size
          · have kz : (k : Int) < (e.z.size : Int) := by omega
            have kc : (k : Int) ≤ (e.c : Int) := by have := HC.out; omega
            have a1 := fun p : ExtW wr => p.cell (a := ⟨w.heap.size, 1, none⟩) hlw (HB.out.at_ 1)
            have a9 := fun p : ExtW wr => p.cell (a := ⟨w.heap.size, 9, none⟩) hlw (HB.out.at_ 9)
            obtain ⟨b, off, hA, hbl, f⟩ := (HR.out.below HB.out.b).rd.at_ (i := k) (by omega)
            have HRD := Lib.hid (fun p : ExtW wr => (HR.out.below (belStep HB.out.b p.h)).rd)
            rw [hA] at a9 c9
            have e0 := fun p : ExtW wr => p.cell (a := ⟨b, off + k * 6 + 0, none⟩) hbl (f 0 (by omega))
            have e1 := fun p : ExtW wr => p.cell (a := ⟨b, off + k * 6 + 1, none⟩) hbl (f 1 (by omega))
            have e2 := fun p : ExtW wr => p.cell (a := ⟨b, off + k * 6 + 2, none⟩) hbl (f 2 (by omega))
            have e3 := fun p : ExtW wr => p.cell (a := ⟨b, off + k * 6 + 3, none⟩) hbl (f 3 (by omega))
            have e4 := fun p : ExtW wr => p.cell (a := ⟨b, off + k * 6 + 4, none⟩) hbl (f 4 (by omega))
            have e5 := fun p : ExtW wr => p.cell (a := ⟨b, off + k * 6 + 5, none⟩) hbl (f 5 (by omega))
            have HAk := Lib.hid (fun W => rAck_any e.z[k]! W)
            have HHd := Lib.hid (fun p : ExtW wr => had_any e.A e.c k e.z e.z[k]! p.to (HRD.out p) (by omega) (by have := HR.out.sz; omega))
            rw [hA] at HHd
            obtain ⟨g1, hg1⟩ : ∃ g, ackB e.z[k]! = g := ⟨_, rfl⟩
            obtain ⟨g2, hg2⟩ : ∃ g, hadN e.z k e.z[k]! = g := ⟨_, rfl⟩
            rw [hg1] at HAk
            rw [hg2] at HHd
            have HG : Hid ((ackB e.z[k]! && !hadN e.z k e.z[k]!) = (g1 && !g2)) := by show _ = _; rw [hg1, hg2]
            clear hg1 hg2
            obtain ⟨x, hx⟩ : ∃ x, e.z[k]! = x := ⟨_, rfl⟩
            rw [hx] at e0 e1 e2 e3 e4 e5 HAk HHd
            clear f hx hA HRD
            simp only [encK, Nat.add_zero, List.getElem!_cons_zero, List.getElem!_cons_succ] at e0 e1 e2 e3 e4 e5 HAk HHd
            by_cases h5 : 5 ≤ e.ph
            · have h5' : decide (5 ≤ e.ph) = true := decide_eq_true h5
              have HF : Hid (enE e = 2) := by show _ = _; rw [HE.out, if_neg]; rintro ⟨_, h⟩; have := h h5; omega
              clear e0 e1 e2 e3 e4 e5
              go_wp2_with fail
              refine wp_region_ext (by kernel_rfl) (by kernel_rfl) ?_
              repeat (first | go_big_quiet_step (fail) | quiet_step (fail))
              refine wpQuiet_nil ?_
              intro w' hw'
              obtain ⟨⟨W, hbW⟩, hw''⟩ := hw'
              have hw3 : w' = W := hw''
              subst hw3
              have HW := Lib.hid (HB.out.next hbW)
              clear hbW hw'' a1 a9
              go_wp2
              go_ret
              exact ⟨ret_int HF.out.symm, HW.out.b⟩
            · have h5' : decide (5 ≤ e.ph) = false := decide_eq_false h5
              have HF : Hid ((g1 && !g2) = false → enE e = 2) := fun h => by
                rw [HE.out, if_neg]
                rintro ⟨h', _⟩
                rw [goodK_no k hlt (by rw [HG.out]; exact h)] at h'
                cases h'
              have hph' : e.ph < 5 := by omega
              have HPH := Lib.hid hph'
              clear h5 hph hph'
              cases g1 <;> cases g2
              all_goals
                go_wp2_with fail
                refine wp_region_ext (by kernel_rfl) (by kernel_rfl) ?_
                repeat (first | go_big_quiet_step ((first | (go_at_call 138; exact Calls.ext_of (HAk.out _)) | (go_at_call 139; exact Calls.ext_of (HHd.out _)))) | quiet_step (fail))
                refine wpQuiet_nil ?_
                intro w' hw'
                obtain ⟨⟨W, hbW⟩, hw''⟩ := hw'
                have hw3 : w' = W := hw''
                subst hw3
                have HW := Lib.hid (HB.out.next hbW)
                clear hbW hw'' a1 a9 e0 e1 e2 e3 e4 e5
                go_wp2
                first
                  | (go_ret
                     exact ⟨ret_int (HF.out rfl).symm, HW.out.b⟩)
                  | (go_roundw
                     case rel =>
                       refine ⟨k + 1, by go_num, by omega, Lib.hid (fun _ => HPH.out), Lib.hid (fun j hj => ?_), HW⟩
                       rcases Nat.lt_or_ge j k with h | h
                       · exact hall.out j h
                       · obtain rfl : j = k := by omega
                         exact HG.out
                     case measure => simp [intOf]; omega)
          · have hlt' : decide ((k : Int) < (e.z.size : Int)) = false := by simp; omega
            have h0 : 5 ≤ e.ph → e.z.size = 0 := fun h5 => by
              rcases Nat.eq_zero_or_pos k with h | h
              · omega
              · have := hph.out h; omega
            have HF : Hid (enE e = 0) := by
              show _ = _
              rw [HE.out, if_pos ⟨goodK_yes fun i hi => hall.out i (by omega), h0⟩]
            clear h0
            go_wp2
            go_ret
            exact ⟨ret_int HF.out.symm, HB.out.b⟩
  · have HE : Hid (enE e = 2) := by
      show _ = _
      unfold enE chkEn
      rw [if_neg]
      intro h
      simp only [Bool.and_eq_true, decide_eq_true_eq] at h
      exact hh ⟨h.1.1.1.1, h.1.1.1.2, h.1.1.2, h.1.2.2⟩
    have HH := Lib.hid hh
    clear hh
    generalize selfN_I e.id = sf at z0 HSP
    simp only [encE] at HX ⊢
    go_enter Tryz.func87, Tryz.ntmps87
    go_wp2_with fail
    refine (HSP.out _).mono ?_
    rintro _ _ ⟨rfl, rfl⟩
    generalize w.alloc (.cells #[.int .i64 e.id, .int .i64 e.ph, .int .i64 e.qu, .int .i64 e.t, .int .i64 e.bal, .int .i64 e.abal, .int .i64 e.seen, .int .i64 e.age, .string e.pay, .slice e.A e.z.size e.c] 60) = w0 at HX ⊢
    have c1 := HX.out.at_ 1
    have c2 := HX.out.at_ 2
    have c3 := HX.out.at_ 3
    have c4 := HX.out.at_ 4
    have c5 := HX.out.at_ 5
    have c6 := HX.out.at_ 6
    have c7 := HX.out.at_ 7
    have c8 := HX.out.at_ 8
    have c9 := HX.out.at_ 9
    go_wp2
    all_goals first
      | (go_ret
         exact ⟨ret_int HE.out.symm, HX.out.b⟩)
      | (exfalso
         have hh := HH.out
         simp only [headP, numsP, toldP] at *
         clear HX HSP HR HC HH HE c1 c2 c3 c4 c5 c6 c7 c8 c9
         grind)
end
end Go.Proofs.YtnmojicfmcbgmaaGreat
