/- rubatoref20.Same, entry.Same: two commands held against each other; rubatolaw20.Few, rubatolaw21.Few. -/
import Derived.Test.YtgpejfkmdenonaaEnF
namespace Go.Proofs.Ytgpejfkmdenonaa
open Go.RowKit Go.Sort Go.Lib
set_option maxRecDepth 100000
theorem str_eq_E {a b : ByteArray} : (a.toList == b.toList) = decide (a = b) := by
  by_cases h : a = b
  · subst h; simp
  · have : a.toList ≠ b.toList := fun e => h (by
      rw [Lib.toList_data, Lib.toList_data] at e
      exact ByteArray.ext (Array.ext' e))
    simp [h, this]
def sameP (a b : EN) : Prop := a.id = b.id ∧ a.ph = b.ph ∧ a.qu = b.qu ∧ a.t = b.t ∧ a.bal = b.bal ∧ a.abal = b.abal ∧ a.seen = b.seen ∧ a.age = b.age ∧ a.pay = b.pay ∧ a.z = b.z
instance (a b : EN) : Decidable (sameP a b) := by unfold sameP; infer_instance
theorem sameP_refl (a : EN) : sameP a a := ⟨rfl, rfl, rfl, rfl, rfl, rfl, rfl, rfl, rfl, rfl⟩
section
variable (a b : EN)
set_option maxHeartbeats 8000000 in
theorem rSame20_any (w : World) (ha : RdE0 w a) (hb : RdE0 w b) (sa : a.z.size ≤ 100000) (sb : b.z.size ≤ 100000) :
    Calls Try.prog 16 #[.agg (encE a).toArray, .agg (encE b).toArray] w fun r w' => r = .returned (.bool (decide (sameP a b))) ∧ Below w.heap.size w w' := by
  have HA := Lib.hid (fun W (h : Below w.heap.size w W) => SameAcks_any a.A b.A a.c b.c a.z b.z _ _ W (ha.below h).rd (hb.below h).rd (by omega) (by omega))
  have HB : Hid (∀ o1 o2, Below w.heap.size w ((w.alloc o1).alloc o2)) := Lib.hid (fun o1 o2 => belAlloc (bel1 w o1) o2)
  have hsn := @str_eq_E a.pay b.pay
  clear ha hb
  simp only [encE]
  go_enter Try.func16, Try.ntmps16
  go_wp2_with (go_at_call 35; refine (HA.out _ (HB.out _ _)).mono ?_; rintro _ w1 ⟨rfl, hb1⟩; have HB1 := Lib.hid (belStep (HB.out _ _) hb1); clear hb1)
  all_goals
    go_ret
    refine ⟨ret_dec ?_, by first | exact HB1.out | exact HB.out _ _⟩
    simp only [sameP, decide_eq_true_eq] at *
    grind
set_option maxHeartbeats 8000000 in
theorem eSame_any (w : World) (ha : RdE0 w a) (hb : RdE0 w b) (sa : a.z.size ≤ 100000) (sb : b.z.size ≤ 100000) :
    Calls Try.prog 49 #[.agg (encE a).toArray, .agg (encE b).toArray] w fun r w' => r = .returned (.bool (decide (sameP a b))) ∧ Below w.heap.size w w' := by
  have HA := Lib.hid (fun W (h : Below w.heap.size w W) => EqAcks_any a.A b.A a.c b.c a.z b.z _ _ W (ha.below h).rd (hb.below h).rd (by omega) (by omega))
  have HB : Hid (∀ o1 o2, Below w.heap.size w ((w.alloc o1).alloc o2)) := Lib.hid (fun o1 o2 => belAlloc (bel1 w o1) o2)
  have hsn := @str_eq_E a.pay b.pay
  clear ha hb
  simp only [encE]
  go_enter Try.func49, Try.ntmps49
  go_wp2_with (go_at_call 64; refine (HA.out _ (HB.out _ _)).mono ?_; rintro _ w1 ⟨rfl, hb1⟩; have HB1 := Lib.hid (belStep (HB.out _ _) hb1); clear hb1)
  all_goals
    go_ret
    refine ⟨ret_dec ?_, by first | exact HB1.out | exact HB.out _ _⟩
    simp only [sameP, decide_eq_true_eq] at *
    grind
end
def fewP (e : EN) : Prop := e.z.size ≤ 100 ∧ e.pay.size ≤ 1000
instance (e : EN) : Decidable (fewP e) := by unfold fewP; infer_instance
theorem few20_any (e : EN) (w : World) : Calls Try.prog 7 #[.agg (encE e).toArray] w fun r w' => r = .returned (.bool (decide (fewP e))) ∧ Below w.heap.size w w' := by
  have HB : Hid (∀ o1, Below w.heap.size w (w.alloc o1)) := Lib.hid (fun o1 => bel1 w o1)
  simp only [encE]
  go_enter Try.func7, Try.ntmps7
  go_wp2
  all_goals
    go_ret
    refine ⟨ret_dec ?_, HB.out _⟩
    simp only [fewP, decide_eq_true_eq] at *
    grind
end Go.Proofs.Ytgpejfkmdenonaa
