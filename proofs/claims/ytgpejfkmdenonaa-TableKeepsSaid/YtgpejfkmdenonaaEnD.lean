/- May a command be: entry.Check, and the document's answer rubatoref20.Check. -/
import Derived.Test.YtgpejfkmdenonaaEnC
import Derived.Test.YtgpejfkmdenonaaCnt
import Derived.Test.YtgpejfkmdenonaaIdentA
namespace Go.Proofs.Ytgpejfkmdenonaa
open Go.RowKit Go.Sort Go.Lib
set_option maxRecDepth 100000
def numsP (e : EN) : Prop := 0 ≤ e.t ∧ e.t ≤ 1000000 ∧ 0 ≤ e.bal ∧ e.bal ≤ 1000000 ∧ 0 ≤ e.abal ∧ e.abal ≤ e.bal ∧ 0 ≤ e.seen ∧ e.seen ≤ 1000000 ∧ 0 ≤ e.age ∧ e.age ≤ 1000000
instance (e : EN) : Decidable (numsP e) := by unfold numsP; infer_instance
/-- A command's time and ballots agree with its phase. -/
def toldP (e : EN) : Prop := (((2 ≤ e.ph ∧ e.ph ≤ 4) ∨ e.ph = 5 ∨ e.ph = 6 ∨ 0 < e.abal) ↔ 0 < e.t) ∧ (0 < e.abal ∨ e.ph = 5 ∨ e.ph = 6 ∨ (0 < e.bal ↔ (e.ph = 3 ∨ e.ph = 4)))
instance (e : EN) : Decidable (toldP e) := by unfold toldP; infer_instance
/-- What a command's numbers must be. -/
def headP (e : EN) : Prop := 10 ≤ e.id ∧ e.id ≤ 999999 ∧ e.id % 10 ≠ 0 ∧ 1 ≤ e.ph ∧ e.ph ≤ 6 ∧ 1 ≤ e.qu ∧ e.qu ≤ 511 ∧ e.pay.size ≤ 300
instance (e : EN) : Decidable (headP e) := by unfold headP; infer_instance
def chkEn (e : EN) : Bool := decide (headP e) && decide (numsP e) && decide (toldP e) && (goodK e.z && decide (e.z.size ≤ 27)) && decide (5 ≤ e.ph → e.z.size = 0)
def enE (e : EN) : Int := if chkEn e = true then 0 else 2
/-- A box that was made at w, of these cells, in a world that has only grown. -/
structure BoxW (w : World) (cs : Array Value) (W : World) : Prop where
  b : Below w.heap.size w W
  lt : w.heap.size < W.heap.size
  at_ : ∀ j, W.cell? ⟨w.heap.size, j, none⟩ = cs[j]?
theorem BoxW.init (w : World) (cs : Array Value) (t : TypeId) : BoxW w cs (w.alloc (.cells cs t)) := ⟨bel1 w _, by simp, fun j => cell_new w cs t j⟩
theorem BoxW.next {w W W' : World} {cs : Array Value} (h : BoxW w cs W) (hb : Below W.heap.size W W') : BoxW w cs W' :=
  ⟨belStep h.b hb, Nat.lt_of_lt_of_le h.lt hb.size, fun j => (hb.cell (p := ⟨w.heap.size, j, none⟩) h.lt).trans (h.at_ j)⟩
theorem checkE_bool (id : Int) : (checkE id != 0) = !decide (10 ≤ id ∧ id ≤ 999999 ∧ id % 10 ≠ 0) := by
  unfold checkE
  by_cases h : id < 10 ∨ 999999 < id ∨ id % 10 = 0
  · rw [if_pos h, decide_eq_false (by omega)]; rfl
  · rw [if_neg h, decide_eq_true (by omega)]; rfl
section
variable (e : EN)
set_option maxHeartbeats 4000000 in
theorem nums_any (w : World) : Calls Try.prog 52 #[.agg (encE e).toArray] w fun r w' => r = .returned (.bool (decide (numsP e))) ∧ Below w.heap.size w w' := by
  have hb : Below w.heap.size w (w.alloc (.cells (encE e).toArray 25)) := bel1 w _
  obtain ⟨id, ph, qu, t, bal, abal, seen, age, pay, A, c, z⟩ := e
  simp only [encE] at hb ⊢
  go_enter Try.func52, Try.ntmps52
  go_wp2_with (go_at_call 67; refine (within_any _ _ _).mono ?_; rintro e w' ⟨rfl, rfl⟩)
  all_goals
    go_ret
    refine ⟨ret_dec ?_, hb⟩
    simp only [numsP, withB, decide_eq_true_eq, decide_eq_false_iff_not, Bool.false_eq_true, false_iff] at *
    omega
set_option maxHeartbeats 4000000 in
theorem told_any (w : World) : Calls Try.prog 53 #[.agg (encE e).toArray] w fun r w' => r = .returned (.bool (decide (toldP e))) ∧ Below w.heap.size w w' := by
  obtain ⟨id, ph, qu, t, bal, abal, seen, age, pay, A, c, z⟩ := e
  simp only [encE]
  go_enter Try.func53, Try.ntmps53
  go_wp2_with (first | (go_at_call 68; refine (phProp_any _ _).mono ?_; rintro e w' ⟨rfl, rfl⟩) | (go_at_call 44; refine (phSetl_any _ _).mono ?_; rintro e w' ⟨rfl, rfl⟩))
  all_goals
    go_ret
    refine ⟨ret_dec ?_, bel1 w _⟩
    simp only [toldP, propB, setlB, decide_eq_true_eq, decide_eq_false_iff_not] at *
    grind
set_option maxHeartbeats 8000000 in
theorem eCheck_any (w : World) (hr : RdE w e) (hc : e.z.size ≤ e.c) : Calls Try.prog 26 #[.agg (encE e).toArray] w fun r w' => r = .returned (.int .i64 (enE e)) ∧ Below w.heap.size w w' := by
  have HK := Lib.hid (fun W (hb : Below w.heap.size w W) => acks_any e.A e.c e.z W (hr.below hb).rd hc hr.sz)
  have HN := Lib.hid (fun W => nums_any e W)
  have HT := Lib.hid (fun W => told_any e W)
  have HX := Lib.hid (BoxW.init w (encE e).toArray 25)
  have hid := checkE_bool e.id
  have hcn := cntN_zero e.qu
  have HP := Lib.hid hr.pz
  have hps : (e.pay.size : Int) ≤ 1000 := by have := hr.pz; omega
  clear hr hc
  simp only [encE] at HN HT HX ⊢
  go_enter Try.func26, Try.ntmps26
  go_wp2_with (first
    | (go_at_call 47; refine (phOpen_any _ _).mono ?_; rintro _ _ ⟨rfl, rfl⟩)
    | (go_at_call 44; refine (phSetl_any _ _).mono ?_; rintro _ _ ⟨rfl, rfl⟩)
    | (go_at_call 50; refine (Check_any_I _ _).mono ?_; rintro _ _ ⟨rfl, rfl⟩)
    | (go_at_call 51; refine (CountI_any _ _).mono ?_; rintro _ _ ⟨rfl, rfl⟩)
    | (go_at_call 52; refine (HN.out _).mono ?_; rintro _ w1 ⟨rfl, hb⟩; have HX := Lib.hid (HX.out.next hb); clear hb; have c0 := HX.out.at_ 0; have c1 := HX.out.at_ 1; have c2 := HX.out.at_ 2; have c3 := HX.out.at_ 3; have c4 := HX.out.at_ 4; have c5 := HX.out.at_ 5; have c6 := HX.out.at_ 6; have c7 := HX.out.at_ 7; have c8 := HX.out.at_ 8; have c9 := HX.out.at_ 9)
    | (go_at_call 53; refine (HT.out _).mono ?_; rintro _ w2 ⟨rfl, hb⟩; have HX := Lib.hid (HX.out.next hb); clear hb; have c1 := HX.out.at_ 1; have c9 := HX.out.at_ 9)
    | (go_at_call 54; refine (HK.out _ HX.out.b).mono ?_; rintro _ w3 ⟨rfl, hb⟩; have HX := Lib.hid (HX.out.next hb); clear hb; have c1 := HX.out.at_ 1; have c9 := HX.out.at_ 9))
  all_goals
    go_ret
    refine ⟨ret_int ?_, HX.out.b⟩

    simp only [enE, chkEn, headP, openB, setlB, decide_eq_true_eq, decide_eq_false_iff_not] at *
    grind
end
end Go.Proofs.Ytgpejfkmdenonaa
