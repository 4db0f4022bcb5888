/- Chapter 11's probes. Chapter 11's measure of a record. -/
import Derived.Test.YtlpplnmmcgdooaaGreatDoorRecE
namespace Go.Proofs.YtlpplnmmcgdooaaGreatDoor
open Go.RowKit Go.Sort Nb

/-- Are two records the same? -/
def eqR (a b : PR) : Bool := decide (a.ep = b.ep ∧ a.sq = b.sq ∧ a.sn = b.sn ∧ a.k = b.k ∧ a.dt = b.dt ∧ a.st = b.st)
theorem eqR_self (a : PR) : eqR a a = true := by simp [eqR]
theorem eqR_iff {a b : PR} : eqR a b = true ↔ a = b := by
  obtain ⟨a1, a2, a3, a4, a5, a6⟩ := a
  obtain ⟨b1, b2, b3, b4, b5, b6⟩ := b
  simp [eqR]
theorem recGuard : Tryz.prog.eqGuardType Tryz.prog.depth 49 = false := by kernel_rfl
theorem toL_eq {d d' : ByteArray} : (d.toList = d'.toList) ↔ d = d' := by
  rw [Lib.toList_data, Lib.toList_data]
  obtain ⟨⟨x⟩⟩ := d
  obtain ⟨⟨y⟩⟩ := d'
  simp
set_option maxRecDepth 100000 in
theorem eqRec_run (a b : PR) (w : World) : (binOp .eql 49 (recV a) (recV b)).run Tryz.prog w = .ok (.bool (eqR a b)) w := by
  have hS : Tryz.prog.underlying 49 = some (.struct (Tryz.prog.fieldsOf 49)) := by kernel_rfl
  have hp : Tryz.prog.stoodInHeld 49 = false := by kernel_rfl
  have u3 := Tryz.underlying3
  have u9 := Tryz.underlying9
  have u4 := Tryz.underlying4
  unfold recV eqR
  obtain ⟨a1, a2, a3, a4, a5, a6⟩ := a
  obtain ⟨b1, b2, b3, b4, b5, b6⟩ := b
  dsimp only
  rw [run_eql_struct, show (10000 : Nat) = 9999 + 1 from rfl, run_equalIn_agg w 9999 49 _ _ hS hp]
  simp only [Program.fieldsOf, Tryz.underlying49]
  go_simp
  simp only [toL_eq]
  by_cases h1 : a1 = b1 <;> by_cases h2 : a2 = b2 <;> by_cases h3 : a3 = b3 <;> by_cases h4 : a4 = b4 <;> by_cases h5 : a5 = b5 <;> by_cases h6 : a6 = b6 <;> simp [h1, h2, h3, h4, h5, h6]
def awR : PR := ⟨1, 3, false, 3, ⟨#[]⟩, ⟨#[]⟩⟩
def awRB : ByteArray := ⟨#[1, 3, 0, 3, 0]⟩
def awRX : ByteArray := ⟨#[1, 0, 0, 3, 0]⟩
theorem awR_chk : recC awR = 0 := by decide
theorem awRB_eq : recB awR = awRB.data.toList := by decide
theorem awRB_take : rtC awRB.data.toList = 0 ∧ recO awRB.data.toList = awR := by rw [← awRB_eq]; exact rtC_laid awR awR_chk
theorem awRX_take : rtC awRX.data.toList = 2 := by decide +kernel
theorem awS1 : sentC 2 awB = 0 := by unfold sentC; rw [if_pos rfl]; exact awB_take
theorem awS2 : sentC 3 ⟨#[]⟩ = 30 := by decide
theorem zR_chk : recC zR = 2 := by decide
set_option maxRecDepth 100000 in
set_option maxHeartbeats 4000000 in
theorem awake11_any (w : World) (hg : Glob w) :
    Calls Tryz.prog 23 #[] w fun e w' => e = .returned (.bool true) ∧ Below w.heap.size w w' := by
  have HG := Lib.hid hg
  have HP1 : Hid (∀ W, Below w.heap.size w W → Calls Tryz.prog 24 #[.agg #[.int .i64 1, .int .i64 3, .bool false, .int .i64 3, .string ⟨#[]⟩, .string ⟨#[]⟩]] W fun e w' => e = .returned (.tuple #[.string awRB, .nilIface]) ∧ Below W.heap.size W w') := fun W hb => by
    have := rcPutOk_any awR W (hg.below hb) (by decide) awR_chk
    rw [awRB_eq] at this
    exact this
  have HT1 := Lib.hid (fun (W : World) (hb : Below w.heap.size w W) => rcTake_any awRB W (hg.below hb) (by decide))
  have HT2 : Hid (∀ (W : World), Below w.heap.size w W → Calls Tryz.prog 35 #[.string ⟨#[1, 0, 0, 3, 0]⟩] W fun e w' => RTakeP awRX e w' ∧ Below W.heap.size W w') := fun W hb => rcTake_any awRX W (hg.below hb) (by decide)
  have HRC : Hid (∀ W, Calls Tryz.prog 31 #[.agg #[.int .i64 8, .int .i64 2, .int .i64 11, .int .i64 0, .int .i64 4, .int .i64 0, .int .i64 0, .int .i64 0, .string ⟨#[]⟩, .int .i64 0, .int .i64 0, .slice none 0 0, .slice none 0 0, .int .i64 0]] W fun e w' => (∃ v, e = .returned (.tuple #[.agg #[.int .i64 2, .string awB], v]) ∧ ErrV w' [] 0 v) ∧ Below W.heap.size W w') := fun W => by
    have := rcv_any awM W (awM_rd W)
    unfold RecvP at this
    rw [awM_chk, awB_eq] at this
    exact this
  have HS1 := Lib.hid (fun (W : World) (hb : Below w.heap.size w W) => sent_any 2 awB W (hg.below hb) (by decide))
  have HS2 : Hid (∀ (W : World), Below w.heap.size w W → Calls Tryz.prog 33 #[.agg #[.int .i64 3, .string ⟨#[]⟩]] W fun e w' => SentP 3 ⟨#[]⟩ e w' ∧ Below W.heap.size W w') := fun W hb => sent_any 3 ⟨#[]⟩ W (hg.below hb) (by decide)
  have HE0 : Hid (∀ (W : World), Below w.heap.size w W → Calls Tryz.prog 29 #[.agg #[.int .i64 0, .string ⟨#[]⟩]] W fun e w' => (∃ v, e = .returned v ∧ ErrV w' [eventW] 30 v) ∧ Below W.heap.size W w') := fun W hb => evt_any 0 ⟨#[]⟩ W (hg.below hb) (by decide)
  have HK0 : Hid (∀ (W : World), Below w.heap.size w W → Calls Tryz.prog 27 #[.agg #[.int .i64 0, .int .i64 0, .bool false, .int .i64 0, .string ⟨#[]⟩, .string ⟨#[]⟩]] W fun e w' => (∃ v, e = .returned v ∧ ErrV w' [recordW] 2 v) ∧ Below W.heap.size W w') := fun W hb => by
    have := rcChk_any zR W (hg.below hb) (by decide)
    rw [zR_chk] at this
    exact this
  have HCD := Lib.hid (fun (ops : List ByteArray) (c : Int) (v : Value) (W : World) (h : Below w.heap.size w W) (hv : ErrV W ops c v) => Code_any ops c v W (hg.below h) hv)
  have heq : ∀ W, (binOp .eql 49 (.agg #[.int .i64 1, .int .i64 3, .bool false, .int .i64 3, .string ⟨#[]⟩, .string ⟨#[]⟩]) (.agg #[.int .i64 1, .int .i64 3, .bool false, .int .i64 3, .string ⟨#[]⟩, .string ⟨#[]⟩])).run Tryz.prog W = .ok (.bool true) W := fun W => by
    have := eqRec_run awR awR W
    rw [eqR_self] at this
    exact this
  have hrg := recGuard
  have hab : (awRB.toList == [1, 3, 0, 3, 0]) = true := by rw [Lib.toList_data]; decide
  clear hg
  go_enter Tryz.func23, Tryz.ntmps23
  go_wp2_with fail
  refine (HP1.out _ (bel1 w _)).mono ?_
  rintro e w1 ⟨rfl, hb1⟩
  have B1 := Lib.hid (belStep (bel1 w _) hb1)
  have K1 := Lib.hid (heap_box hb1)
  clear hb1
  go_wp2_with fail
  refine (HT1.out _ B1.out).mono ?_
  rintro e w2 ⟨⟨r2, v2, ops2, rfl, hev, -, -, hr⟩, hb2⟩
  have hr2 := hr awRB_take.1
  rw [awRB_take.2] at hr2
  subst hr2
  rw [awRB_take.1] at hev
  obtain rfl : v2 = .nilIface := errNil hev
  have B2 := Lib.hid (belStep B1.out hb2)
  have K2 := Lib.hid ((hb2.block _ (lt_of_heap K1.out)).trans K1.out)
  clear hb2 hev hr
  unfold recV awR
  dsimp only
  go_wp2_with fail
  refine (HT2.out _ (belAlloc B2.out _)).mono ?_
  rintro e w3 ⟨⟨r3, v3, ops3, rfl, hev3, -, hz3, -⟩, hb3⟩
  rw [awRX_take] at hev3 hz3
  obtain ⟨-, rfl⟩ := hz3 (by decide)
  have E3 := Lib.hid hev3
  have hb23 := belStep (bel1 w2 _) hb3
  have B3 := Lib.hid (belStep B2.out hb23)
  have K3 := Lib.hid ((hb23.block _ (lt_of_heap K2.out)).trans K2.out)
  have L3 := Lib.hid (heap_box hb3)
  clear hb3 hb23 hev3 hz3
  unfold recV zR
  dsimp only
  go_wp2_with fail
  refine (HRC.out _).mono ?_
  rintro e w4 ⟨⟨v4, rfl, hev4⟩, hb4⟩
  obtain rfl : v4 = .nilIface := errNil hev4
  have hb34 := belStep (bel1 w3 _) hb4
  have B4 := Lib.hid (belStep B3.out hb34)
  have E4 := Lib.hid (E3.out.below hb34)
  have K4 := Lib.hid ((hb34.block _ (lt_of_heap K3.out)).trans K3.out)
  have L4 := Lib.hid ((hb34.block _ (lt_of_heap L3.out)).trans L3.out)
  clear hb4 hb34 hev4
  go_wp2_with fail
  refine (HS1.out _ (belAlloc B4.out _)).mono ?_
  rintro e w5 ⟨⟨m, v5, ops5, rfl, -, hev5, -, -, hy5⟩, hb5⟩
  rw [awS1] at hev5
  obtain rfl : v5 = .nilIface := errNil hev5
  have hbal : (m.bal == 4) = true := by obtain ⟨aA, aC, mA, mC, rfl⟩ := hy5 awS1; rw [awB_bal]; rfl
  have hb45 := belStep (bel1 w4 _) hb5
  have B5 := Lib.hid (belStep B4.out hb45)
  have E5 := Lib.hid (E4.out.below hb45)
  have K5 := Lib.hid ((hb45.block _ (lt_of_heap K4.out)).trans K4.out)
  have L5 := Lib.hid ((hb45.block _ (lt_of_heap L4.out)).trans L4.out)
  have M5 := Lib.hid (heap_box hb5)
  clear hb5 hb45 hev5 hy5
  unfold msgV
  go_wp2_with fail
  refine (HS2.out _ (belAlloc B5.out _)).mono ?_
  rintro e w6 ⟨⟨m6, v6, ops6, rfl, -, hev6, -, hz6, -⟩, hb6⟩
  rw [awS2] at hev6 hz6
  obtain rfl := hz6 (by decide)
  have hb56 := belStep (bel1 w5 _) hb6
  have B6 := Lib.hid (belAlloc (belStep B5.out hb56) (.cells #[.int .i64 0, .int .i64 0, .int .i64 0, .int .i64 0, .int .i64 0, .int .i64 0, .int .i64 0, .int .i64 0, .string ⟨#[]⟩, .int .i64 0, .int .i64 0, .slice none 0 0, .slice none 0 0, .int .i64 0] 25))
  have E6 := Lib.hid ((E5.out.below hb56).below (bel1 w6 (.cells #[.int .i64 0, .int .i64 0, .int .i64 0, .int .i64 0, .int .i64 0, .int .i64 0, .int .i64 0, .int .i64 0, .string ⟨#[]⟩, .int .i64 0, .int .i64 0, .slice none 0 0, .slice none 0 0, .int .i64 0] 25)))
  have F6 := Lib.hid (hev6.below (bel1 w6 (.cells #[.int .i64 0, .int .i64 0, .int .i64 0, .int .i64 0, .int .i64 0, .int .i64 0, .int .i64 0, .int .i64 0, .string ⟨#[]⟩, .int .i64 0, .int .i64 0, .slice none 0 0, .slice none 0 0, .int .i64 0] 25)))
  have K6 := Lib.hid ((hb56.block _ (lt_of_heap K5.out)).trans K5.out)
  have L6 := Lib.hid ((hb56.block _ (lt_of_heap L5.out)).trans L5.out)
  have M6 := Lib.hid ((hb56.block _ (lt_of_heap M5.out)).trans M5.out)
  have N6 := Lib.hid (heap_box hb6)
  clear hb6 hb56 hev6 hz6
  unfold msgV zM
  dsimp only
  obtain ⟨⟨c0, c1, c2, c3, c4, c5⟩, -⟩ := cells6 K6.out
  obtain ⟨⟨d0, d1, d2, d3, d4, d5⟩, -⟩ := cells6 L6.out
  have zk : w.heap.size < w6.heap.size := lt_of_heap K6.out
  have zl : w2.heap.size < w6.heap.size := lt_of_heap L6.out
  go_wp2_with fail
  refine (HCD.out ops3 2 v3 _ B6.out E6.out).mono ?_
  rintro e w7 ⟨rfl, hb7⟩
  have hb67 := belStep (bel1 w6 _) hb7
  have B7 := Lib.hid (belStep B6.out hb7)
  have F7 := Lib.hid (F6.out.below hb7)
  have M7 := Lib.hid ((hb67.block _ (lt_of_heap M6.out)).trans M6.out)
  have N7 := Lib.hid ((hb67.block _ (lt_of_heap N6.out)).trans N6.out)
  have m0 : w7.cell? ⟨w4.heap.size, 0, none⟩ = some (.int .i64 2) := by rw [heap_cell M7.out]; rfl
  have n4 : w7.cell? ⟨w5.heap.size, 4, none⟩ = some (.int .i64 m.bal) := by rw [heap_cell N7.out]; rfl
  have zm : w4.heap.size < w7.heap.size := lt_of_heap M7.out
  have zn : w5.heap.size < w7.heap.size := lt_of_heap N7.out
  clear hb7 hb67 c0 c1 c2 c3 c4 c5 d0 d1 d2 d3 d4 d5
  go_wp2_with fail
  refine (HCD.out ops6 30 v6 _ B7.out F7.out).mono ?_
  rintro e w8 ⟨rfl, hb8⟩
  have B8 := Lib.hid (belStep B7.out hb8)
  clear hb8 m0 n4 zm zn
  go_wp2_with fail
  refine (HE0.out _ B8.out).mono ?_
  rintro e w9 ⟨⟨v9, rfl, hev9⟩, hb9⟩
  have B9 := Lib.hid (belStep B8.out hb9)
  have E9 := Lib.hid hev9
  clear hb9 hev9
  go_wp2_with fail
  refine (HCD.out _ 30 v9 _ B9.out E9.out).mono ?_
  rintro e w10 ⟨rfl, hb10⟩
  have B10 := Lib.hid (belStep B9.out hb10)
  clear hb10
  go_wp2_with fail
  refine (HK0.out _ B10.out).mono ?_
  rintro e w11 ⟨⟨v11, rfl, hev11⟩, hb11⟩
  have B11 := Lib.hid (belStep B10.out hb11)
  have E11 := Lib.hid hev11
  clear hb11 hev11
  go_wp2_with (go_at_call 12; refine (HCD.out _ 2 v11 _ B11.out E11.out).mono ?_; rintro e w12 ⟨rfl, hb12⟩; have HB12 := Lib.hid (belStep B11.out hb12); clear hb12)
  go_ret
  exact ⟨rfl, HB12.out⟩
end Go.Proofs.YtlpplnmmcgdooaaGreatDoor
namespace Go.Proofs.YtlpplnmmcgdooaaGreatDoor
open Go.RowKit Go.Sort Nb

def fewR (r : PR) : Bool := decide (r.st.size ≤ 19000) && decide (r.dt.size ≤ 6000)
set_option maxRecDepth 100000 in
theorem FewR_any (r : PR) (w : World) :
    Calls Tryz.prog 22 #[recV r] w fun e w' => e = .returned (.bool (fewR r)) ∧ Below w.heap.size w w' := by
  have HF : Hid (fewR r = (decide (r.st.size ≤ 19000) && decide (r.dt.size ≤ 6000))) := rfl
  unfold recV
  by_cases h1 : r.st.size ≤ 19000
  · have d1 : decide ((r.st.size : Int) ≤ 19000) = true := by simp; omega
    by_cases h2 : r.dt.size ≤ 6000
    · have d2 : decide ((r.dt.size : Int) ≤ 6000) = true := by simp; omega
      have HV : Hid (fewR r = true) := by show _ = _; rw [HF.out]; simp [h1, h2]
      clear HF h1 h2
      go_enter Tryz.func22, Tryz.ntmps22
      go_wp2
      go_ret
      exact ⟨by rw [HV.out]; rfl, bel1 w _⟩
    · have d2 : decide ((r.dt.size : Int) ≤ 6000) = false := by simp; omega
      have HV : Hid (fewR r = false) := by show _ = _; rw [HF.out]; simp [h2]
      clear HF h1 h2
      go_enter Tryz.func22, Tryz.ntmps22
      go_wp2
      go_ret
      exact ⟨by rw [HV.out]; rfl, bel1 w _⟩
  · have d1 : decide ((r.st.size : Int) ≤ 19000) = false := by simp; omega
    have HV : Hid (fewR r = false) := by show _ = _; rw [HF.out]; simp [h1]
    clear HF h1
    go_enter Tryz.func22, Tryz.ntmps22
    go_wp2
    go_ret
    exact ⟨by rw [HV.out]; rfl, bel1 w _⟩
theorem fewR_dt {r : PR} (h : fewR r = true) : r.dt.size ≤ 6000 := by
  unfold fewR at h
  simp only [Bool.and_eq_true, decide_eq_true_eq] at h
  exact h.2
/-- A record's bytes are few. -/
theorem recB_le {r : PR} (h : recC r = 0) : (recB r).length ≤ 20000 := by
  obtain ⟨h1, h2, h3, h4, hT, hF⟩ := recC_ok h
  have n1 := numB_len r.ep.toNat (by omega)
  have n2 := numB_len r.sq.toNat (by omega)
  have h5 : (flagB r.sn).length = 1 := by cases r.sn <;> rfl
  unfold recB
  simp only [List.length_append]
  cases hs : r.sn
  · obtain ⟨k1, k3, hd, -⟩ := hF hs
    have n3 := numB_len r.k.toNat (by omega)
    have n4 := numB_len r.dt.size (by omega)
    rw [hs] at h5
    simp [textB] at *
    omega
  · obtain ⟨-, -, hst⟩ := hT hs
    have n4 := numB_len r.st.size (by omega)
    rw [hs] at h5
    simp [textB] at *
    omega
end Go.Proofs.YtlpplnmmcgdooaaGreatDoor
