/- Plain: the marks sorted, the majority's place, is the greatest mark that a majority reaches. -/
import Derived.Test.YtpnjodefnpphkaaStableC
namespace Go.Proofs.Ytpnjodefnpphkaa
open Go.RowKit Go.Sort Go.Lib

theorem manyN_count (d : Array Int) (t : Int) : ∀ k, k ≤ d.size → manyN d t k = (d.toList.take k).countP (fun x => decide (t ≤ x))
  | 0, _ => by simp [manyN]
  | k + 1, h => by
    have hk : k < d.toList.length := by rw [Array.length_toList]; omega
    rw [manyN, manyN_count d t k (by omega), List.take_succ_eq_append_getElem hk, List.countP_append, getElem!_pos d k (by omega)]
    congr 1
    simp [List.countP_cons]
theorem manyN_all (d : Array Int) (t : Int) : manyN d t d.size = d.toList.countP (fun x => decide (t ≤ x)) := by
  rw [manyN_count d t d.size (Nat.le_refl _), List.take_of_length_le (by simp)]
theorem sortD_perm (d : Array Int) : (sortD d).toList.Perm d.toList := by
  unfold sortD; exact List.mergeSort_perm _ _
theorem sortD_pair (d : Array Int) : (sortD d).toList.Pairwise (fun x y => y ≤ x) := by
  unfold sortD
  have h : (d.toList.mergeSort fun x y => !(ltOf fallC) y x).Pairwise (fun x y => (!(ltOf fallC) y x) = true) := by
    refine List.pairwise_mergeSort ?_ ?_ _
    · intro a b c h1 h2; rw [fallC_lt] at *; simp at *; omega
    · intro a b; rw [fallC_lt, fallC_lt]; simp; omega
  refine h.imp ?_
  intro a b hab
  rw [fallC_lt] at hab; simp at hab; omega
/-- Of a falling list: at least k are no less than the one at place k - 1. -/
theorem count_ge (l : List Int) (hp : l.Pairwise (fun x y => y ≤ x)) (k : Nat) (hk : k < l.length) : k + 1 ≤ l.countP (fun x => decide (l[k] ≤ x)) := by
  have h1 : (l.take (k + 1)).countP (fun x => decide (l[k] ≤ x)) = (l.take (k + 1)).length := by
    rw [List.countP_eq_length]
    intro x hx
    obtain ⟨j, hj, rfl⟩ := List.mem_iff_getElem.1 hx
    rw [List.getElem_take]
    have hj' : j < k + 1 := by simp at hj; omega
    rcases Nat.lt_or_ge j k with h | h
    · exact decide_eq_true (List.pairwise_iff_getElem.1 hp j k (by omega) hk h)
    · obtain rfl : j = k := by omega
      simp
  have h2 : (l.take (k + 1)).length = k + 1 := by simp; omega
  have h3 : (l.take (k + 1)).countP (fun x => decide (l[k] ≤ x)) ≤ l.countP (fun x => decide (l[k] ≤ x)) := (List.take_sublist _ _).countP_le
  omega
theorem count_lt (l : List Int) (hp : l.Pairwise (fun x y => y ≤ x)) (k : Nat) (hk : k < l.length) (t : Int) (ht : l[k] < t) : l.countP (fun x => decide (t ≤ x)) ≤ k := by
  have h1 : (l.drop k).countP (fun x => decide (t ≤ x)) = 0 := by
    rw [List.countP_eq_zero]
    intro x hx
    obtain ⟨j, hj, rfl⟩ := List.mem_iff_getElem.1 hx
    rw [List.getElem_drop]
    have hj' : k + j < l.length := by simp at hj; omega
    have : l[k + j] ≤ l[k] := by
      rcases Nat.eq_zero_or_pos j with h | h
      · subst h; simp
      · exact List.pairwise_iff_getElem.1 hp k (k + j) hk hj' (by omega)
    simp; omega
  have h2 : l.countP (fun x => decide (t ≤ x)) = (l.take k).countP (fun x => decide (t ≤ x)) + (l.drop k).countP (fun x => decide (t ≤ x)) := by
    conv => lhs; rw [← List.take_append_drop k l]
    rw [List.countP_append]
  have h3 := List.countP_le_length (p := fun x => decide (t ≤ x)) (l := l.take k)
  have h4 : (l.take k).length ≤ k := List.length_take_le _ _
  omega
theorem bestN_le (d : Array Int) (m v : Int) (h0 : 0 ≤ v) (h : ∀ j, j < d.size → m ≤ manyN d d[j]! d.size → d[j]! ≤ v) : ∀ k, k ≤ d.size → bestN d m k ≤ v
  | 0, _ => h0
  | k + 1, hk => by
    unfold bestN
    split
    · rename_i hh; exact h k (by omega) hh.2
    · exact bestN_le d m v h0 h k (by omega)
theorem bestN_ge (d : Array Int) (m v : Int) (j : Nat) (hj : j < d.size) (hv : d[j]! = v) (hm : m ≤ manyN d v d.size) : ∀ k, k ≤ d.size → j < k → v ≤ bestN d m k
  | 0, _, h => absurd h (by omega)
  | k + 1, hk, hjk => by
    unfold bestN
    rcases Nat.lt_or_ge j k with h | h
    · have := bestN_ge d m v j hj hv hm k (by omega) h
      split
      · omega
      · exact this
    · obtain rfl : j = k := by omega
      rw [hv]
      split
      · exact Int.le_refl _
      · rename_i hh
        rcases Int.lt_or_le (bestN d m j) v with hl | hl
        · exact absurd ⟨hl, hm⟩ hh
        · exact hl
theorem bad_no {x : Int} (h : badMark x = false) : 0 ≤ x ∧ x ≤ 1000000 := by
  unfold badMark at h; rw [decide_eq_false_iff_not] at h; omega
theorem marks_all {d : Array Int} (h : d.toList.any badMark = false) (x : Int) (hx : x ∈ d.toList) : 0 ≤ x ∧ x ≤ 1000000 := by
  rw [List.any_eq_false] at h
  exact bad_no (by simpa using h x hx)
/-- What the stable time is: its place in the sorted marks. -/
theorem ofS_spec {d : Array Int} {n : Int} (hm : marksE d n = 0) :
    ∃ (hk : (mostN n).toNat - 1 < (sortD d).toList.length), ofS d n = (sortD d).toList[(mostN n).toNat - 1] ∧ ofS d n ∈ d.toList ∧ mostN n ≤ manyN d (ofS d n) d.size ∧ (∀ t, ofS d n < t → (manyN d t d.size : Int) < mostN n) := by
  obtain ⟨n1, n2, n3, n4, n5⟩ := marks_size hm
  have hl : (sortD d).toList.length = d.size := by rw [Array.length_toList, size_sortD]
  have hk : (mostN n).toNat - 1 < (sortD d).toList.length := by omega
  have ho : ofS d n = (sortD d).toList[(mostN n).toNat - 1] := by
    unfold ofS; rw [if_pos hm, getElem!_pos _ _ (by rw [size_sortD]; omega)]; simp
  have hc := fun t => (sortD_perm d).countP_eq (fun x => decide (t ≤ x))
  have h1 := count_ge _ (sortD_pair d) _ hk
  rw [← ho, hc, ← manyN_all] at h1
  refine ⟨hk, ho, ?_, by omega, fun t ht => ?_⟩
  · rw [ho]; exact (sortD_perm d).mem_iff.1 (List.getElem_mem hk)
  · have h2 := count_lt _ (sortD_pair d) _ hk t (by rw [← ho]; exact ht)
    rw [hc, ← manyN_all] at h2
    omega
theorem ofS_eq (d : Array Int) (n : Int) : ofS d n = ofR d n := by
  by_cases hm : marksE d n = 0
  · obtain ⟨hk, ho, hmem, h1, h2⟩ := ofS_spec hm
    obtain ⟨n1, n2, n3, n4, n5⟩ := marks_size hm
    have h0 := (marks_all n5 _ hmem).1
    unfold ofR; rw [if_pos hm]
    obtain ⟨j, hj, hv⟩ := List.mem_iff_getElem.1 hmem
    have hj' : j < d.size := by simpa using hj
    have hv' : d[j]! = ofS d n := by rw [getElem!_pos d j hj']; simpa using hv
    have hge := bestN_ge d (mostN n) _ j hj' hv' h1 d.size (Nat.le_refl _) hj'
    have hle := bestN_le d (mostN n) _ h0 (fun i hi hmi => by
      rcases Int.lt_or_le (ofS d n) d[i]! with hl | hl
      · exact absurd hmi (by have := h2 _ hl; omega)
      · exact hl) d.size (Nat.le_refl _)
    omega
  · unfold ofS ofR; rw [if_neg hm, if_neg hm]
end Go.Proofs.Ytpnjodefnpphkaa
