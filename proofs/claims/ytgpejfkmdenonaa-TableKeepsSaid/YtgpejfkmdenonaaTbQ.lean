/- The plain law of what stays: a put, what is forgotten, what is due. -/
import Derived.Test.YtgpejfkmdenonaaTbP
import Derived.Test.YtgpejfkmdenonaaTbH
namespace Go.Proofs.Ytgpejfkmdenonaa
open Go.RowKit Go.Sort Go.Lib
theorem keep_ok {z : Array EN} {n : Int} (h : chkT z = true) : chkT (keepT n z) = true := by
  refine chkT_mk ?_ ?_ ?_
  · have := keepT_size n z; have := (chkT_iff.1 h).1; omega
  · exact fun x hx => chkT_mem h x (keepT_mem x hx)
  · unfold keepT
    exact (chkT_pw h).filter _
theorem due_keep {z : Array EN} {n : Int} : dueT n (keepT n z) = dueT n z := by
  have e : fmT (dueB n) (fun x : EN => (x.t, x.id)) (keepT n z) = fmT (dueB n) (fun x => (x.t, x.id)) z := by
    unfold fmT keepT
    congr 2
    show List.filter (dueB n) (z.toList.filter fun x => !dropB n x) = _
    rw [List.filter_filter]
    apply List.filter_congr
    intro x _
    unfold dueB dropB
    by_cases h1 : x.ph = 5
    · have : ¬ x.ph = 6 := by omega
      simp [this]
    · simp [h1]
  unfold dueT
  rw [e]
theorem srtA_memT {d : Array (Int × Int)} {x : Int × Int} : x ∈ (srtA d).toList ↔ x ∈ d.toList := by
  unfold srtA
  exact (List.mergeSort_perm d.toList _).mem_iff
/-- What is due: a time up to n, a command that is settled, and that stays. -/
theorem due_at {z : Array EN} {n : Int} (h : chkT z = true) {i : Nat} (hi : i < (dueT n z).size) : (dueT n z)[i]!.1 ≤ n ∧ (dueT n z)[i]!.2 ∈ (fmT (fun x => setlB x.ph) EN.id z).toList ∧ ∃ x, FindR (keepT n z) (dueT n z)[i]!.2 (x, true) := by
  have hm : (dueT n z)[i]! ∈ (dueT n z).toList := by rw [getElem!_pos _ i hi]; simp
  generalize (dueT n z)[i]! = u at hm ⊢
  unfold dueT at hm
  rw [srtA_memT] at hm
  unfold fmT at hm
  simp only [List.mem_map, List.mem_filter] at hm
  obtain ⟨x, ⟨hx, hd⟩, rfl⟩ := hm
  have hd' : x.ph = 5 ∧ x.t ≤ n := of_decide_eq_true hd
  refine ⟨hd'.2, ?_, x, ?_⟩
  · unfold fmT
    simp only [List.mem_map, List.mem_filter]
    exact ⟨x, ⟨hx, by unfold setlB; simp [hd'.1]⟩, rfl⟩
  · refine find_up (chkT_up (keep_ok h)) ?_
    unfold keepT
    simp only [List.mem_filter]
    exact ⟨hx, by unfold dropB; simp [hd'.1]⟩
/-- Each command is open or settled. -/
theorem open_setl {z : Array EN} (h : chkT z = true) : (fmT (fun x => openB x.ph) EN.id z).size + (fmT (fun x => setlB x.ph) EN.id z).size = z.size := by
  have hc := chkT_mem h
  have key : ∀ l : List EN, (∀ x ∈ l, chkEn x = true) → (l.filter fun x => openB x.ph).length + (l.filter fun x => setlB x.ph).length = l.length := by
    intro l
    induction l with
    | nil => intro _; rfl
    | cons y r ih =>
      intro hy
      have hr := ih fun x hx => hy x (by simp [hx])
      have h1 := (chkEn_iff y).1 (hy y (by simp))
      have hp := h1.1
      unfold headP at hp
      rw [List.filter_cons, List.filter_cons, List.length_cons]
      by_cases ho : y.ph ≤ 4
      · have e1 : openB y.ph = true := by unfold openB; simp; omega
        have e2 : setlB y.ph = false := by unfold setlB; simp; omega
        rw [if_pos e1, if_neg (by rw [e2]; exact Bool.false_ne_true), List.length_cons]; omega
      · have e1 : openB y.ph = false := by unfold openB; simp; omega
        have e2 : setlB y.ph = true := by unfold setlB; simp; omega
        rw [if_neg (by rw [e1]; exact Bool.false_ne_true), if_pos e2, List.length_cons]; omega
  have := key z.toList hc
  unfold fmT
  simpa using this
end Go.Proofs.Ytgpejfkmdenonaa
