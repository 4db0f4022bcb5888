/- A message that Check finds sound: its numbers are small. The bytes that it is laid as. -/
import Derived.Test.YtlpplnmmcgdooaaGreatDoorMsgF
namespace Go.Proofs.YtlpplnmmcgdooaaGreatDoor
open Go.RowKit Nb

structure OkM (m : PM) : Prop where
  k : 1 ≤ m.k ∧ m.k ≤ 10
  fr : 1 ≤ m.fr ∧ m.fr ≤ 9
  id : 0 ≤ m.id ∧ m.id ≤ 999999
  t : 0 ≤ m.t ∧ m.t ≤ 1000000
  bal : 0 ≤ m.bal ∧ m.bal ≤ 1000000
  abal : 0 ≤ m.abal ∧ m.abal ≤ 1000000
  ph : 0 ≤ m.ph ∧ m.ph ≤ 4
  q : 0 ≤ m.q ∧ m.q ≤ 511
  pay : m.pay.size ≤ 300
  lo : 0 ≤ m.lo ∧ m.lo ≤ 1000000
  hi : 0 ≤ m.hi ∧ m.hi ≤ 1000000
  dn : 0 ≤ m.dn ∧ m.dn ≤ 1000000
  ats : m.ats.size ≤ 200
  att : ∀ a ∈ m.ats.toList, (0 ≤ a.1 ∧ a.1 ≤ 1000000) ∧ 0 ≤ a.2 ∧ a.2 ≤ 999999
  mks : m.mks.size ≤ 9
  mkv : ∀ j, j < m.mks.size → 0 ≤ m.mks[j]! ∧ m.mks[j]! ≤ 1000000
theorem attL_mem {hi : Int} (l : List (Int × Int)) (lo : Int) (h : attL hi lo l = true) : ∀ a ∈ l, (lo < a.1 ∧ a.1 ≤ hi) ∧ okId a.2 = true := by
  induction l generalizing lo with
  | nil => intro a ha; simp at ha
  | cons b l ih =>
    unfold attL at h
    simp only [Bool.and_eq_true, decide_eq_true_eq] at h
    obtain ⟨⟨⟨h1, h2⟩, h3⟩, h4⟩ := h
    intro a ha
    rcases List.mem_cons.1 ha with rfl | ha
    · exact ⟨⟨h1, h2⟩, h3⟩
    · have := ih b.1 h4 a ha
      exact ⟨⟨by omega, this.1.2⟩, this.2⟩
theorem okM_of {m : PM} (h : chkM m = 0) : OkM m := by
  unfold chkM at h
  by_cases hk : m.k < 1 ∨ 10 < m.k
  · rw [if_pos hk] at h; omega
  rw [if_neg hk] at h
  cases hA : (decide (1 ≤ m.fr ∧ m.fr ≤ 9) && sameM (bareM m) m && mayB m)
  · rw [hA] at h; simp at h
  simp only [Bool.and_eq_true, decide_eq_true_eq] at hA
  obtain ⟨⟨hf, hs⟩, hm⟩ := hA
  unfold sameM at hs
  rw [decide_eq_true_eq] at hs
  obtain ⟨-, -, s1, s2, s3, s4, s5, s6, s7, s8, s9, s10, s11, s12⟩ := hs
  unfold bareM at s1 s2 s3 s4 s5 s6 s7 s8 s9 s10 s11 s12
  dsimp only at s1 s2 s3 s4 s5 s6 s7 s8 s9 s10 s11 s12
  unfold mayB at hm
  by_cases h10 : m.k = 10
  · rw [if_pos h10] at hm
    unfold proB mksB at hm
    simp only [Bool.and_eq_true, decide_eq_true_eq] at hm
    obtain ⟨⟨⟨a1, a2, a3, a4, a5, a6, a7, a8⟩, b1, b2⟩, c1⟩ := hm
    simp [h10] at s1 s2 s3 s4 s5 s6 s7
    have e7 : m.pay.size = 0 := by rw [← s7]; rfl
    refine ⟨by omega, hf, by omega, by omega, by omega, by omega, by omega, by omega, by omega, ⟨a1, a2⟩, ⟨a3, a4⟩, ⟨a6, a7⟩, b2, ?_, a8, ?_⟩
    · intro a ha
      have := attL_mem _ _ b1 a ha
      have h2 := this.2
      unfold okId at h2
      rw [decide_eq_true_eq] at h2
      exact ⟨⟨by omega, by omega⟩, by omega, by omega⟩
    · intro j hj
      have := c1 j hj
      unfold okMark at this
      rw [decide_eq_true_eq] at this
      exact this
  · rw [if_neg h10] at hm
    unfold okId okTime carB tolB at hm
    simp [h10] at s8 s9 s10 s11 s12
    have e11 : m.ats.toList = [] := by simp [s11]
    have e11' : m.ats.size = 0 := by simp [s11]
    have e12 : m.mks.size = 0 := by simp [s12]
    have hks : m.k = 1 ∨ m.k = 2 ∨ m.k = 3 ∨ m.k = 4 ∨ m.k = 5 ∨ m.k = 6 ∨ m.k = 7 ∨ m.k = 8 ∨ m.k = 9 := by omega
    have hq : m.pay.size ≤ 300 ∧ (0 ≤ m.id ∧ m.id ≤ 999999) ∧ (0 ≤ m.t ∧ m.t ≤ 1000000) ∧ (0 ≤ m.bal ∧ m.bal ≤ 1000000) ∧ (0 ≤ m.abal ∧ m.abal ≤ 1000000) ∧ (0 ≤ m.ph ∧ m.ph ≤ 4) ∧ (0 ≤ m.q ∧ m.q ≤ 511) := by
      clear s8 s9 s10 s11 s12 s1
      rcases hks with e | e | e | e | e | e | e | e | e
      all_goals
        simp [e] at hm s2 s3 s4 s5 s6 s7
        try (have e7 : m.pay.size = 0 := by rw [← s7]; rfl)
        omega
    obtain ⟨q1, q2, q3, q4, q5, q6, q7⟩ := hq
    refine ⟨by omega, hf, q2, q3, q4, q5, q6, q7, q1, by omega, by omega, by omega, by omega, ?_, by omega, ?_⟩
    · intro a ha; rw [e11] at ha; simp at ha
    · intro j hj; omega
/-- The attachments as one row. -/
def flA (d : List (Int × Int)) : List Int := d.flatMap fun a => [a.1, a.2]
def m8 (m : PM) : Array Int := #[m.k, m.fr, m.id, m.t, m.bal, m.abal, m.ph, m.q]
def m3 (m : PM) : Array Int := #[m.lo, m.hi, m.dn]
/-- A message's bytes. -/
def msgB (m : PM) : List UInt8 := (nats (m8 m)).flatMap numB ++ textB m.pay.data.toList ++ (nats (m3 m)).flatMap numB ++ rowB (nats (flA m.ats.toList).toArray) ++ rowB (nats m.mks)
theorem layN_of_mem {d : Array Int} (h : ∀ x ∈ d.toList, 0 ≤ x ∧ x ≤ 9223372036854775807) : LayN d := by
  intro i hi
  rw [getElem!_pos d i hi]
  exact h _ (by simp)
theorem OkM.l8 {m : PM} (h : OkM m) : LayN (m8 m) := by
  obtain ⟨h1, h2, h3, h4, h5, h6, h7, h8, -⟩ := h
  refine layN_of_mem ?_
  intro x hx
  simp [m8] at hx
  omega
theorem OkM.l3 {m : PM} (h : OkM m) : LayN (m3 m) := by
  have h1 := h.lo
  have h2 := h.hi
  have h3 := h.dn
  refine layN_of_mem ?_
  intro x hx
  simp [m3] at hx
  omega
theorem flA_len (l : List (Int × Int)) : (flA l).length = 2 * l.length := by
  induction l with
  | nil => rfl
  | cons a l ih => unfold flA at *; simp at *; omega
theorem OkM.la {m : PM} (h : OkM m) : LayN (flA m.ats.toList).toArray := by
  refine layN_of_mem ?_
  intro x hx
  simp only [flA, List.mem_flatMap] at hx
  obtain ⟨a, ha, hx⟩ := hx
  have := h.att a ha
  simp at hx
  omega
theorem OkM.lm {m : PM} (h : OkM m) : LayN m.mks := by
  intro i hi
  have := h.mkv i hi
  omega
end Go.Proofs.YtlpplnmmcgdooaaGreatDoor
