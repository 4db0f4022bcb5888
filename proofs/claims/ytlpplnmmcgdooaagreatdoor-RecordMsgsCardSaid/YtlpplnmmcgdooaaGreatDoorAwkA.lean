/- Chapter 9's probes: plain facts, and the name of a kind. Chapter 9's probes: the walk. Chapter 9's measure of a message, and how long its bytes may be. -/
import Derived.Test.YtlpplnmmcgdooaaGreatDoorMsgT
import Derived.Test.YtlpplnmmcgdooaaGreatDoorErrD
namespace Go.Proofs.YtlpplnmmcgdooaaGreatDoor
open Go.RowKit Go.Sort Nb

def awM : PM := { k := 8, fr := 2, id := 11, t := 0, bal := 4, abal := 0, ph := 0, q := 0, pay := ⟨#[]⟩, lo := 0, hi := 0, aA := none, aC := 0, ats := #[], mA := none, mC := 0, mks := #[], dn := 0 }
def awN : PM := { k := 8, fr := 2, id := 11, t := 1, bal := 4, abal := 0, ph := 0, q := 0, pay := ⟨#[]⟩, lo := 0, hi := 0, aA := none, aC := 0, ats := #[], mA := none, mC := 0, mks := #[], dn := 0 }
theorem awM_rd (w : World) : RdM w awM := ⟨fun h => absurd h (by decide), RdI.none_, by decide, by decide, by decide⟩
theorem awN_rd (w : World) : RdM w awN := ⟨fun h => absurd h (by decide), RdI.none_, by decide, by decide, by decide⟩
theorem sameM_self (m : PM) : sameM m m = true := by rw [sameM_iff]; simp
theorem awM_bare : bareM awM = awM := by unfold bareM awM; simp
theorem awM_chk : chkM awM = 0 := by
  unfold chkM
  rw [awM_bare, sameM_self, if_neg (by decide)]
  have : mayB awM = true := by decide
  rw [this]
  rfl
theorem awN_chk : chkM awN = 2 := by
  unfold chkM
  have : sameM (bareM awN) awN = false := by
    rw [Bool.eq_false_iff]
    intro h
    have := (sameM_iff.1 h).2.2.2.1
    exact absurd this (by decide)
  rw [this, if_neg (by decide)]
  simp
theorem zM_chk : chkM zM = 30 := by unfold chkM; rw [if_pos (by decide)]
/-- The bytes of the probe. -/
def awB : ByteArray := ⟨#[8, 2, 11, 0, 4, 0, 0, 0, 0, 0, 0, 0, 0, 0]⟩
def awX : ByteArray := ⟨#[8, 2, 11, 0, 4, 0, 0, 0, 0, 0, 0, 0, 0, 0, 120]⟩
theorem awB_eq : msgB awM = awB.data.toList := by decide
theorem takeC_6 {s t : List UInt8} (h : takeC s = 0) (ht : t ≠ []) : takeC (s ++ t) = 6 := by
  obtain ⟨_, _, h3, h4⟩ := takeC_ok h none 0 none 0
  have e := raw_laid _ (okM_of h3) t
  rw [h4] at e
  have : (rawOf (s ++ t)).r.e = 6 := by
    rw [e]
    have : 0 < t.length := List.length_pos_iff.2 ht
    show (endR (s ++ t) ⟨s.length, 0⟩).e = 6
    unfold endR
    rw [if_pos ⟨rfl, by rw [List.length_append]; show s.length < _; omega⟩]
  unfold takeC
  rw [this]
  simp
theorem awB_take : takeC awB.data.toList = 0 := by rw [← awB_eq]; exact takeC_laid awM awM_chk
theorem awX_take : takeC awX.data.toList = 6 := takeC_6 (s := awB.data.toList) (t := [120]) awB_take (by simp)
theorem awB_bal (aA : Option Addr) (aC : Nat) (mA : Option Addr) (mC : Nat) : (pmOf (rawOf awB.data.toList) aA aC mA mC).bal = 4 := by
  have := raw_same awM (okM_of awM_chk) [] aA aC mA mC
  rw [List.append_nil, awB_eq, sameM_iff] at this
  exact this.2.2.2.2.1.symm
set_option maxRecDepth 100000 in
set_option maxHeartbeats 1000000 in
theorem name8_any (w : World) :
    Calls Tryz.prog 17 #[.int .i64 8] w fun e w' => e = .returned (.string ⟨#[114, 101, 102, 117, 115, 101]⟩) ∧ Below w.heap.size w w' := by
  go_enter Tryz.func17, Tryz.ntmps17
  go_wp2
  go_ret
  exact ⟨rfl, bel1 w _⟩
set_option maxRecDepth 100000 in
set_option maxHeartbeats 1000000 in
theorem name11_any (w : World) :
    Calls Tryz.prog 17 #[.int .i64 11] w fun e w' => e = .returned (.string ⟨#[]⟩) ∧ Below w.heap.size w w' := by
  go_enter Tryz.func17, Tryz.ntmps17
  go_wp2
  go_ret
  exact ⟨rfl, bel1 w _⟩
end Go.Proofs.YtlpplnmmcgdooaaGreatDoor
namespace Go.Proofs.YtlpplnmmcgdooaaGreatDoor
open Go.RowKit Go.Sort Nb

theorem errNil {w : World} {ops : List ByteArray} {v : Value} (h : ErrV w ops 0 v) : v = .nilIface := by
  rcases h with ⟨_, _, h⟩ | ⟨h, _⟩
  · exact h
  · exact absurd rfl h
theorem errChain {w : World} {ops : List ByteArray} {c : Int} {v : Value} (h : ErrV w ops c v) (hc : c ≠ 0) : Chain w ops c v := by
  rcases h with ⟨h, _⟩ | ⟨_, h⟩
  · exact absurd h hc
  · exact h
set_option maxRecDepth 100000 in
set_option maxHeartbeats 1500000 in
theorem awake09_any (w : World) (hg : Glob w) :
    Calls Tryz.prog 9 #[] w fun e w' => e = .returned (.bool true) ∧ Below w.heap.size w w' := by
  have HP1 : Hid (∀ W, Calls Tryz.prog 10 #[.agg #[.int .i64 8, .int .i64 2, .int .i64 11, .int .i64 0, .int .i64 4, .int .i64 0, .int .i64 0, .int .i64 0, .string ⟨#[]⟩, .int .i64 0, .int .i64 0, .slice none 0 0, .slice none 0 0, .int .i64 0]] W fun e w' => e = .returned (.tuple #[.string awB, .nilIface]) ∧ Below W.heap.size W w') := fun W => by
    have := mPutOk_any awM W (awM_rd W) awM_chk
    rw [awB_eq] at this
    exact this
  have HP2 : Hid (∀ W, Calls Tryz.prog 10 #[.agg #[.int .i64 8, .int .i64 2, .int .i64 11, .int .i64 1, .int .i64 4, .int .i64 0, .int .i64 0, .int .i64 0, .string ⟨#[]⟩, .int .i64 0, .int .i64 0, .slice none 0 0, .slice none 0 0, .int .i64 0]] W fun e w' => (∃ v, e = .returned (.tuple #[.string ⟨#[]⟩, v]) ∧ ErrV w' [msgW] 2 v) ∧ Below W.heap.size W w') := fun W => by
    have := mPutBad_any awN W (awN_rd W) (by rw [awN_chk]; decide)
    unfold PutBad at this
    rw [awN_chk] at this
    exact this
  have HT1 := Lib.hid (fun (W : World) (hg : Glob W) => mTake_any awB W hg (by decide))
  have HT2 : Hid (∀ (W : World), Glob W → Calls Tryz.prog 19 #[.string awX] W fun e w' => TakeP awX e w' ∧ Below W.heap.size W w') := fun W hg => mTake_any awX W hg (by decide)
  have HC0 : Hid (∀ W, Calls Tryz.prog 13 #[.agg #[.int .i64 0, .int .i64 0, .int .i64 0, .int .i64 0, .int .i64 0, .int .i64 0, .int .i64 0, .int .i64 0, .string ⟨#[]⟩, .int .i64 0, .int .i64 0, .slice none 0 0, .slice none 0 0, .int .i64 0]] W fun e w' => (∃ v, e = .returned v ∧ ErrV w' [msgW] 30 v) ∧ Below W.heap.size W w') := fun W => by
    have := Check_any zM W (zM_rd W)
    unfold ChkP at this
    rw [zM_chk] at this
    exact this
  have HG := Lib.hid hg
  have hax : awB ++ (⟨#[120]⟩ : ByteArray) = awX := by decide
  have hab : (awB.toList == [8, 2, 11, 0, 4, 0, 0, 0, 0, 0, 0, 0, 0, 0]) = true := by rw [Lib.toList_data]; decide
  have HW0 := Lib.hid hax
  clear hg
  go_enter Tryz.func9, Tryz.ntmps9
  go_wp2_with fail
  refine (HP1.out _).mono ?_
  rintro e w1 ⟨rfl, hb1⟩
  have HB1 := Lib.hid hb1
  clear hb1
  go_wp2_with fail
  refine (HT1.out _ (HG.out.below HB1.out)).mono ?_
  rintro e w2 ⟨⟨m, v2, ops2, rfl, hrm, hev, hol, -, hm⟩, hb2⟩
  have hv2 := errNil (by rw [awB_take] at hev; exact hev)
  subst hv2
  have hbal : (m.bal == 4) = true := by obtain ⟨aA, aC, mA, mC, rfl⟩ := hm awB_take; rw [awB_bal]; rfl
  have HRM := Lib.hid hrm
  have HB2 := Lib.hid (belStep HB1.out hb2)
  have HSV : Hid (∀ W, RdM W m → Calls Tryz.prog 15 #[msgV m, msgV m] W fun e w' => e = .returned (.bool true) ∧ Below W.heap.size W w') := fun W h => by
    have := Same_any m m W h h
    rw [sameM_self] at this
    exact this
  unfold msgV at HSV ⊢
  clear hrm hev hol hm hb2
  go_wp2_with fail
  refine (HT2.out _ (HG.out.below (belAlloc HB2.out _))).mono ?_
  rintro e w3 ⟨⟨m2, v3, ops3, rfl, hrm, hev, hol, hzz, -⟩, hb3⟩
  rw [awX_take] at hev
  obtain ⟨hto, -⟩ := hzz (by rw [awX_take]; decide)
  have HEV := Lib.hid hev
  have HOL := Lib.hid hol
  have HTO := Lib.hid hto
  have HB3 := Lib.hid (belStep (belAlloc HB2.out _) hb3)
  have HR3 := Lib.hid (HRM.out.next (belStep (bel1 w2 _) hb3))
  have HM3 : Hid (w3.heap[w2.heap.size]? = some (.cells #[.int .i64 m.k, .int .i64 m.fr, .int .i64 m.id, .int .i64 m.t, .int .i64 m.bal, .int .i64 m.abal, .int .i64 m.ph, .int .i64 m.q, .string m.pay, .int .i64 m.lo, .int .i64 m.hi, .slice m.aA m.ats.size m.aC, .slice m.mA m.mks.size m.mC, .int .i64 m.dn] 25 (0, 0))) := (hb3.block _ (by simp)).trans (heap_new w2 _)
  have hz3 : w2.heap.size < w3.heap.size := lt_of_heap HM3.out
  obtain ⟨b3, o3, u3, rfl, -⟩ : ∃ b o u, v3 = .iface 145 (.pointer (some ⟨b, o, none⟩)) ∧ u = u := by
    have hc := errChain hev (by decide)
    cases ops3 with
    | nil => simp at hto
    | cons op ops => obtain ⟨b, o, u, h1, _⟩ := hc; exact ⟨b, o, u, h1, rfl⟩
  unfold msgV
  clear hrm hev hol hto hb3 hzz
  go_wp2_with fail
  refine (HP2.out _).mono ?_
  rintro e w4 ⟨⟨v4, rfl, hev4⟩, hb4⟩
  have HE4 := Lib.hid hev4
  have hb34 := belStep (bel1 w3 _) hb4
  have HB4 := Lib.hid (belStep HB3.out hb34)
  have HR4 := Lib.hid (HR3.out.next hb34)
  have HE3 := Lib.hid (HEV.out.below hb34)
  have HM4 := Lib.hid ((hb34.block _ hz3).trans HM3.out)
  have hz4 : w2.heap.size < w4.heap.size := lt_of_heap HM4.out
  have p4 : w4.cell? ⟨w2.heap.size, 4, none⟩ = some (.int .i64 m.bal) := by rw [heap_cell HM4.out]; rfl
  clear hev4 hb4 hb34
  go_wp2_with fail
  refine (Code_any ops3 6 _ w4 (HG.out.below HB4.out) HE3.out).mono ?_
  rintro e w5 ⟨rfl, hb5⟩
  have HB5 := Lib.hid (belStep HB4.out hb5)
  have HR5 := Lib.hid (HR4.out.next hb5)
  have HE5 := Lib.hid (HE3.out.below hb5)
  have HF5 := Lib.hid (HE4.out.below hb5)
  have HM5 := Lib.hid ((hb5.block _ hz4).trans HM4.out)
  clear hb5 p4
  go_wp2_with fail
  refine (At_any ops3 6 _ takeW w5 (HG.out.below HB5.out) (errChain HE5.out (by decide)) (by have := HOL.out; omega)).mono ?_
  rintro e w6 ⟨rfl, hb6⟩
  rw [hasS_yes HTO.out]
  have HB6 := Lib.hid (belStep HB5.out hb6)
  have HR6 := Lib.hid (HR5.out.next hb6)
  have HF6 := Lib.hid (HF5.out.below hb6)
  have HM6 := Lib.hid ((hb6.block _ (lt_of_heap HM5.out)).trans HM5.out)
  clear hb6
  go_wp2_with fail
  refine (Code_any [msgW] 2 v4 w6 (HG.out.below HB6.out) HF6.out).mono ?_
  rintro e w7 ⟨rfl, hb7⟩
  have HB7 := Lib.hid (belStep HB6.out hb7)
  have HR7 := Lib.hid (HR6.out.next hb7)
  have HM7 := Lib.hid ((hb7.block _ (lt_of_heap HM6.out)).trans HM6.out)
  clear hb7
  go_wp2_with fail
  refine (name8_any _).mono ?_
  rintro e w8 ⟨rfl, hb8⟩
  have HB8 := Lib.hid (belStep HB7.out hb8)
  have HR8 := Lib.hid (HR7.out.next hb8)
  have HM8 := Lib.hid ((hb8.block _ (lt_of_heap HM7.out)).trans HM7.out)
  clear hb8
  go_wp2_with fail
  refine (name11_any _).mono ?_
  rintro e w9 ⟨rfl, hb9⟩
  have HB9 := Lib.hid (belStep HB8.out hb9)
  have HR9 := Lib.hid (HR8.out.next hb9)
  have HM9 := Lib.hid ((hb9.block _ (lt_of_heap HM8.out)).trans HM8.out)
  clear hb9
  go_wp2_with fail
  refine (HC0.out _).mono ?_
  rintro e w10 ⟨⟨v10, rfl, hev10⟩, hb10⟩
  have HE10 := Lib.hid hev10
  have HB10 := Lib.hid (belStep HB9.out hb10)
  have HR10 := Lib.hid (HR9.out.next hb10)
  have HM10 := Lib.hid ((hb10.block _ (lt_of_heap HM9.out)).trans HM9.out)
  clear hb10 hev10
  go_wp2_with fail
  refine (Code_any [msgW] 30 v10 w10 (HG.out.below HB10.out) HE10.out).mono ?_
  rintro e w11 ⟨rfl, hb11⟩
  have HB11 := Lib.hid (belStep HB10.out hb11)
  have HR11 := Lib.hid (HR10.out.next hb11)
  have HM11 := Lib.hid ((hb11.block _ (lt_of_heap HM10.out)).trans HM10.out)
  obtain ⟨p0, -, p1, -, p2, -, p3, -, p4, -, p5, -, p6, -, p7, -, p8, -, p9, -, p10, -, p11, -, p12, -, p13, -⟩ := cells14 HM11.out
  have hz11 : w2.heap.size < w11.heap.size := lt_of_heap HM11.out
  clear hb11
  go_wp2_with (go_at_call 15; refine (HSV.out _ HR11.out).mono ?_; rintro e w12 ⟨rfl, hb12⟩; have HB12 := Lib.hid (belStep HB11.out hb12); clear hb12)
  go_ret
  exact ⟨rfl, HB12.out⟩
end Go.Proofs.YtlpplnmmcgdooaaGreatDoor
namespace Go.Proofs.YtlpplnmmcgdooaaGreatDoor
open Go.RowKit Go.Sort Nb

def fewM (m : PM) : Bool := decide (m.pay.size ≤ 1000) && decide (m.ats.size ≤ 300) && decide (m.mks.size ≤ 100)
theorem fewM_rd {w : World} {m : PM} (h : fewM m = true) (ra : RdK encA 2 w.heap.size w m.aA m.ats) (rm : RdI w.heap.size w m.mA m.mks) : RdM w m := by
  unfold fewM at h
  simp only [Bool.and_eq_true, decide_eq_true_eq] at h
  exact ⟨ra, rm, by omega, by omega, by omega⟩
theorem le_int (n k : Nat) : decide ((n : Int) ≤ (k : Int)) = decide (n ≤ k) := by simp
set_option maxRecDepth 100000 in
set_option maxHeartbeats 1000000 in
theorem Few_any (m : PM) (w : World) :
    Calls Tryz.prog 8 #[msgV m] w fun e w' => e = .returned (.bool (fewM m)) ∧ Below w.heap.size w w' := by
  have HF : Hid (fewM m = (decide (m.pay.size ≤ 1000) && decide (m.ats.size ≤ 300) && decide (m.mks.size ≤ 100))) := rfl
  unfold msgV
  by_cases h1 : m.pay.size ≤ 1000
  · have d1 : decide ((m.pay.size : Int) ≤ 1000) = true := by simp; omega
    by_cases h2 : m.ats.size ≤ 300
    · have d2 : decide ((m.ats.size : Int) ≤ 300) = true := by simp; omega
      by_cases h3 : m.mks.size ≤ 100
      · have d3 : decide ((m.mks.size : Int) ≤ 100) = true := by simp; omega
        have HV : Hid (fewM m = true) := by show _ = _; rw [HF.out]; simp [h1, h2, h3]
        clear HF h1 h2 h3
        go_enter Tryz.func8, Tryz.ntmps8
        go_wp2
        go_ret
        exact ⟨by rw [HV.out]; rfl, bel1 w _⟩
      · have d3 : decide ((m.mks.size : Int) ≤ 100) = false := by simp; omega
        have HV : Hid (fewM m = false) := by show _ = _; rw [HF.out]; simp [h3]
        clear HF h1 h2 h3
        go_enter Tryz.func8, Tryz.ntmps8
        go_wp2
        go_ret
        exact ⟨by rw [HV.out]; rfl, bel1 w _⟩
    · have d2 : decide ((m.ats.size : Int) ≤ 300) = false := by simp; omega
      have HV : Hid (fewM m = false) := by show _ = _; rw [HF.out]; simp [h2]
      clear HF h1 h2
      go_enter Tryz.func8, Tryz.ntmps8
      go_wp2
      go_ret
      exact ⟨by rw [HV.out]; rfl, bel1 w _⟩
  · have d1 : decide ((m.pay.size : Int) ≤ 1000) = false := by simp; omega
    have HV : Hid (fewM m = false) := by show _ = _; rw [HF.out]; simp [h1]
    clear HF h1
    go_enter Tryz.func8, Tryz.ntmps8
    go_wp2
    go_ret
    exact ⟨by rw [HV.out]; rfl, bel1 w _⟩
theorem msgB_le {m : PM} (h : OkM m) : (msgB m).length ≤ 10000 := by
  have l8 := flat_len _ h.l8.nats
  have l3 := flat_len _ h.l3.nats
  have la := flat_len _ h.la.nats
  have lm := flat_len _ h.lm.nats
  rw [nats_len] at l8 l3 la lm
  have e8 : (m8 m).size = 8 := rfl
  have e3 : (m3 m).size = 3 := rfl
  have ea : (flA m.ats.toList).toArray.size = 2 * m.ats.size := by rw [List.size_toArray, flA_len]; simp
  have h1 := h.ats
  have h2 := h.mks
  have h3 := h.pay
  have n1 := numB_len m.pay.size (by omega)
  have n2 := numB_len (2 * m.ats.size) (by omega)
  have n3 := numB_len m.mks.size (by omega)
  unfold msgB textB rowB
  simp only [List.length_append, nats_len, ea]
  have ep : m.pay.data.toList.length = m.pay.size := by simp
  rw [ep]
  rw [e8] at l8
  rw [e3] at l3
  rw [ea] at la
  omega
/-- A struct that was boxed, in every later world. -/
theorem heap_box {w W : World} {o : Obj} (h : Below (w.alloc o).heap.size (w.alloc o) W) : W.heap[w.heap.size]? = some o := (h.block _ (by simp)).trans (heap_new w o)
end Go.Proofs.YtlpplnmmcgdooaaGreatDoor
