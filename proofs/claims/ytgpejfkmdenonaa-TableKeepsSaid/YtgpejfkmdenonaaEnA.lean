/- A command at a replica, an answer: what they hold in memory; their small tests: phase.Open, Settled, Proposed, Check, entry.within, entry.answer, rubatoref20.ack. -/
import Derived.Test.YtgpejfkmdenonaaBase
import Derived.Test.YtgpejfkmdenonaaRead
namespace Go.Proofs.Ytgpejfkmdenonaa
open Go.RowKit Go.Sort Go.Lib
/-- An answer. -/
structure AK where
  kind : Int
  frm : Int
  bal : Int
  t : Int
  abal : Int
  ph : Int
instance : Inhabited AK := ⟨⟨0, 0, 0, 0, 0, 0⟩⟩
def encK (a : AK) : List Value := [.int .i64 a.kind, .int .i64 a.frm, .int .i64 a.bal, .int .i64 a.t, .int .i64 a.abal, .int .i64 a.ph]
theorem encK_len (x : AK) : (encK x).length = 6 := rfl
theorem encK_1 (x : AK) : ∀ u ∈ encK x, u.oneCell' = true := by intro u hu; simp [encK] at hu; rcases hu with rfl | rfl | rfl | rfl | rfl | rfl <;> rfl
/-- A command at a replica, with its answers' slice. -/
structure EN where
  id : Int
  ph : Int
  qu : Int
  t : Int
  bal : Int
  abal : Int
  seen : Int
  age : Int
  pay : ByteArray
  A : Option Addr
  c : Nat
  z : Array AK
instance : Inhabited EN := ⟨⟨0, 0, 0, 0, 0, 0, 0, 0, ByteArray.empty, none, 0, #[]⟩⟩
def encE (e : EN) : List Value := [.int .i64 e.id, .int .i64 e.ph, .int .i64 e.qu, .int .i64 e.t, .int .i64 e.bal, .int .i64 e.abal, .int .i64 e.seen, .int .i64 e.age, .string e.pay, .slice e.A e.z.size e.c]
theorem encE_len (x : EN) : (encE x).length = 10 := rfl
theorem encE_1 (x : EN) : ∀ u ∈ encE x, u.oneCell' = true := by intro u hu; simp [encE] at hu; rcases hu with rfl | rfl | rfl | rfl | rfl | rfl | rfl | rfl | rfl | rfl <;> rfl
/-- A command's answers are read. -/
structure RdE0 (w : World) (e : EN) : Prop where
  rd : RdK encK 6 w.heap.size w e.A e.z
  cz : e.z.size ≤ e.c
theorem RdE0.below {w w' : World} {e : EN} (h : RdE0 w e) (hb : Below w.heap.size w w') : RdE0 w' e := ⟨(h.rd.below hb).mono hb.size, h.cz⟩
/-- .. and it is small. -/
structure RdE (w : World) (e : EN) : Prop where
  rd : RdK encK 6 w.heap.size w e.A e.z
  cz : e.z.size ≤ e.c
  sz : e.z.size ≤ 100
  pz : e.pay.size ≤ 1000
theorem RdE.below {w w' : World} {e : EN} (h : RdE w e) (hb : Below w.heap.size w w') : RdE w' e := ⟨(h.rd.below hb).mono hb.size, h.cz, h.sz, h.pz⟩
theorem RdE0.few {w : World} {e : EN} (h : RdE0 w e) (sz : e.z.size ≤ 100) (pz : e.pay.size ≤ 1000) : RdE w e := ⟨h.rd, h.cz, sz, pz⟩
def openB (p : Int) : Bool := decide (1 ≤ p ∧ p ≤ 4)
def setlB (p : Int) : Bool := decide (p = 5 ∨ p = 6)
def propB (p : Int) : Bool := decide (2 ≤ p ∧ p ≤ 4)
def withB (n top : Int) : Bool := decide (0 ≤ n ∧ n ≤ top)
def ackB (a : AK) : Bool := decide (1 ≤ a.kind ∧ a.kind ≤ 3 ∧ 1 ≤ a.frm ∧ a.frm ≤ 9 ∧ 0 ≤ a.t ∧ a.t ≤ 1000000 ∧ 0 ≤ a.bal ∧ a.bal ≤ 1000000 ∧ 0 ≤ a.abal ∧ a.abal ≤ 1000000 ∧ 0 ≤ a.ph ∧ a.ph ≤ 6)
theorem ret_dec {p : Prop} [Decidable p] {b : Bool} (h : b = true ↔ p) : Ending.returned (.bool b) = .returned (.bool (decide p)) := by
  rw [show b = decide p by cases b <;> simp_all]
set_option maxRecDepth 100000
theorem phOpen_any (p : Int) (w : World) : Calls Try.prog 47 #[.int .i64 p] w fun e w' => e = .returned (.bool (openB p)) ∧ w' = w := by
  go_enter Try.func47, Try.ntmps47
  go_wp2
  all_goals
    go_ret
    exact ⟨ret_dec (by simp <;> omega), rfl⟩
theorem phSetl_any (p : Int) (w : World) : Calls Try.prog 44 #[.int .i64 p] w fun e w' => e = .returned (.bool (setlB p)) ∧ w' = w := by
  go_enter Try.func44, Try.ntmps44
  go_wp2
  all_goals
    go_ret
    exact ⟨ret_dec (by simp <;> omega), rfl⟩
theorem phProp_any (p : Int) (w : World) : Calls Try.prog 68 #[.int .i64 p] w fun e w' => e = .returned (.bool (propB p)) ∧ w' = w := by
  go_enter Try.func68, Try.ntmps68
  go_wp2
  all_goals
    go_ret
    exact ⟨ret_dec (by simp <;> omega), rfl⟩
def phE (p : Int) : Int := if 0 ≤ p ∧ p ≤ 6 then 0 else 2
theorem phE_eq (p : Int) : (phE p == 0) = decide (0 ≤ p ∧ p ≤ 6) := by
  unfold phE
  by_cases h : 0 ≤ p ∧ p ≤ 6
  · rw [if_pos h]; simp [h]
  · rw [if_neg h]; simp; omega
theorem phChk_any (p : Int) (w : World) : Calls Try.prog 79 #[.int .i64 p] w fun e w' => e = .returned (.int .i64 (phE p)) ∧ w' = w := by
  go_enter Try.func79, Try.ntmps79
  go_wp2
  all_goals
    go_ret
    refine ⟨ret_int ?_, rfl⟩
    unfold phE
    first | (rw [if_pos (by omega)]) | (rw [if_neg (by omega)])
theorem within_any (n top : Int) (w : World) : Calls Try.prog 67 #[.int .i64 n, .int .i64 top] w fun e w' => e = .returned (.bool (withB n top)) ∧ w' = w := by
  go_enter Try.func67, Try.ntmps67
  go_wp2
  all_goals
    go_ret
    exact ⟨ret_dec (by simp <;> omega), rfl⟩
set_option maxHeartbeats 4000000 in
theorem answer_any (a : AK) (w : World) : Calls Try.prog 71 #[.agg (encK a).toArray] w fun e w' => e = .returned (.bool (ackB a)) ∧ Below w.heap.size w w' := by
  have hb : Below w.heap.size w (w.alloc (.cells (encK a).toArray 78)) := bel1 w _
  have HP := Lib.hid (phE_eq a.ph)
  obtain ⟨kind, frm, bal, t, abal, ph⟩ := a
  simp only [encK] at hb ⊢
  go_enter Try.func71, Try.ntmps71
  go_wp2_with (first | (go_at_call 67; refine (within_any _ _ _).mono ?_; rintro e w' ⟨rfl, rfl⟩) | (go_at_call 79; refine (phChk_any _ _).mono ?_; rintro e w' ⟨rfl, rfl⟩))
  all_goals
    go_ret
    refine ⟨ret_dec ?_, hb⟩
    try rw [HP.out]
    simp only [withB, decide_eq_true_eq, decide_eq_false_iff_not, Bool.false_eq_true, false_iff] at *
    omega
set_option maxHeartbeats 4000000 in
theorem rAck_any (a : AK) (w : World) : Calls Try.prog 59 #[.agg (encK a).toArray] w fun e w' => e = .returned (.bool (ackB a)) ∧ Below w.heap.size w w' := by
  have hb : Below w.heap.size w (w.alloc (.cells (encK a).toArray 78)) := bel1 w _
  obtain ⟨kind, frm, bal, t, abal, ph⟩ := a
  simp only [encK] at hb ⊢
  go_enter Try.func59, Try.ntmps59
  go_wp2
  all_goals
    go_ret
    refine ⟨ret_dec ?_, hb⟩
    simp only [decide_eq_true_eq, Bool.false_eq_true, false_iff] at *
    omega
end Go.Proofs.Ytgpejfkmdenonaa
