/- A slice of ints appended to a row of the call's own; with greater marks the stable time is no less. -/
import Derived.Test.YtpnjodefnpphkaaStableJ
import Derived.Laws.AppendOwnNone
namespace Go.Proofs.Ytpnjodefnpphkaa
open Go.RowKit Go.Sort Go.Lib

theorem append_rdI {P : Program} {w : World} {ops : Array Oper} {rest : List Oper} {o : Oper} {a : Act} {Q : Exit → Act → World → Prop} (hgd : o.guard = none) (s x : Operand) (t : TypeId)
    (ho : o.op = .call { callee := .builtin .append, args := #[s, x], argTypes := #[t, t] })
    (base : Nat) (e : TypeId) (i : TypeInfo) (z : Value) (ht : P.underlying t = some (.slice e)) (hi : P.info? e = some i) (hz : i.zero = some z) (hsize : i.size = 1) (hby : i.bytes = 8) (hzs : z.cells.size = 1)
    (v : Value) (n : Nat) (xs : List Value) (hs : a.eval s = v) (hown : w.ownsRow base e 1 v n xs) (B : Nat) (A : Option Addr) (c : Nat) (d : Array Int) (hx : a.eval x = .slice A d.size c) (hr : RdI B w A d) (hnil : A = none → c = 0)
    (h63 : n + d.size ≤ 100000000) (hbase : base ≤ w.heap.size)
    (h : ∀ v' w', w'.ownsRow base e 1 v' (n + d.size) (xs ++ d.toList.map (Value.int .i64)) → w.grownBy w' v.ownBlock → wpList P ops Q rest (a.put o.dst v') w') : wpList P ops Q (o :: rest) a w := by
  cases A with
  | none =>
    have h0 : d.size = 0 := by
      rcases Nat.eq_zero_or_pos d.size with h0 | h0
      · exact h0
      · obtain ⟨b, off, e, _⟩ := hr h0; cases e
    obtain rfl : d = #[] := Array.eq_empty_of_size_eq_zero h0
    rw [hnil rfl] at hx
    exact wpList_append_own_none hgd s x t ho base e i 1 ht hi v n xs hs hown hx (h v w (by simpa using hown) (World.grownBy.refl w _))
  | some ad =>
    refine wpList_append_own _ hgd s x t ho base e i z 1 8 ht hi hz hsize hby hzs (by decide) v n xs hs hown ad d.size c (d.toList.map (Value.int .i64)) hx (by simp) ?_ ?_ (by unfold maxLen; omega) (by omega) hbase fun v' w' h1 h2 _ => h v' w' h1 h2
    · intro j u hj
      rw [List.getElem?_map, Array.getElem?_toList] at hj
      rcases Nat.lt_or_ge j d.size with hlt | hge
      · obtain ⟨b, off, e1, _, hc⟩ := hr (by omega)
        injection e1 with e1
        subst e1
        rw [Array.getElem?_eq_getElem hlt] at hj
        have hu : Value.int .i64 d[j] = u := by simpa using hj
        rw [Addr.add_lit, hc j hlt, getElem!_pos d j hlt, hu]
      · rw [Array.getElem?_eq_none hge] at hj; simp at hj
    · intro u hu
      obtain ⟨y, _, rfl⟩ := List.mem_map.1 hu
      rfl
theorem empty_owns (w : World) (e : TypeId) : (w.alloc (.cells #[] e)).ownsRow w.heap.size e 1 (.slice (some ⟨w.heap.size, 0, none⟩) 0 0) 0 [] :=
  World.ownsRow_made w #[] 0 (Nat.le_refl _) (Nat.zero_le _) (by simp)

theorem mrg_ge1 (d1 d2 : Array Int) (i : Nat) (h : i < d1.size) : d1[i]! ≤ mrgAt d1 d2 i := by unfold mrgAt; rw [if_pos h]; split <;> omega
theorem mrg_ge2 (d1 d2 : Array Int) (i : Nat) (h : i < d2.size) : d2[i]! ≤ mrgAt d1 d2 i := by unfold mrgAt; split <;> simp [h] <;> omega
theorem many_mono (a b : Array Int) (t : Int) : ∀ k, (∀ i, i < k → a[i]! ≤ b[i]!) → manyN a t k ≤ manyN b t k
  | 0, _ => Nat.le_refl _
  | k + 1, h => by
    have := many_mono a b t k (fun i hi => h i (by omega))
    have h2 := h k (by omega)
    unfold manyN
    split <;> split <;> omega
theorem ofS_mono {a b : Array Int} {n : Int} (ha : marksE a n = 0) (hb : marksE b n = 0) (h : ∀ i, i < a.size → a[i]! ≤ b[i]!) : ofS a n ≤ ofS b n := by
  obtain ⟨_, _, _, h1, _⟩ := ofS_spec ha
  obtain ⟨_, _, _, _, h2⟩ := ofS_spec hb
  have sa := (marks_size ha).2.2.1
  have sb := (marks_size hb).2.2.1
  have hs : a.size = b.size := by omega
  rcases Int.lt_or_le (ofS b n) (ofS a n) with hl | hl
  · have := h2 _ hl
    have h3 := many_mono a b (ofS a n) a.size h
    rw [← hs] at this
    omega
  · exact hl
theorem marks_merge {a b : Array Int} {n : Int} (ha : marksE a n = 0) (hb : marksE b n = 0) : marksE (mergeN a b) n = 0 := by
  obtain ⟨n1, n2, sa, m, ba⟩ := marks_size ha
  obtain ⟨_, _, sb, _, bb⟩ := marks_size hb
  unfold marksE
  rw [if_neg]
  rintro (h | h | h)
  · omega
  · rw [mergeN_size] at h; omega
  · rw [any_bad_no] at h
    · cases h
    · intro j hj
      have hj' := hj
      rw [mergeN_size] at hj'
      rw [mergeN_at _ _ _ hj']
      have h1 := marks_all ba a[j]! (by rw [getElem!_pos a j (by omega)]; simp)
      have h2 := marks_all bb b[j]! (by rw [getElem!_pos b j (by omega)]; simp)
      unfold badMark mrgAt
      rw [if_pos (by omega), if_pos (by omega)]
      simp; omega
theorem min_le (l : List Int) : ∀ k, 1 ≤ k → k ≤ l.length → ∀ i, i < k → Lib.minOf (l.take k) ≤ l.getD i 0
  | 0, h, _, _, _ => absurd h (by omega)
  | 1, _, _, i, hi => by
    obtain rfl : i = 0 := by omega
    rw [minOf_one]; exact Int.le_refl _
  | k + 2, _, hk, i, hi => by
    rw [minOf_step l (k + 1) (by omega) (by omega)]
    rcases Nat.lt_or_ge i (k + 1) with h | h
    · have := min_le l (k + 1) (by omega) (by omega) i h; omega
    · obtain rfl : i = k + 1 := by omega
      omega
theorem min_at (l : List Int) : ∀ k, 1 ≤ k → k ≤ l.length → ∃ i, i < k ∧ Lib.minOf (l.take k) = l.getD i 0
  | 0, h, _ => absurd h (by omega)
  | 1, _, _ => ⟨0, by omega, minOf_one l⟩
  | k + 2, _, hk => by
    rw [minOf_step l (k + 1) (by omega) (by omega)]
    obtain ⟨i, hi, he⟩ := min_at l (k + 1) (by omega) (by omega)
    rcases Int.le_total (Lib.minOf (l.take (k + 1))) (l.getD (k + 1) 0) with h | h
    · exact ⟨i, by omega, by rw [Int.min_eq_left h, he]⟩
    · exact ⟨k + 1, by omega, by rw [Int.min_eq_right h]⟩
theorem least_mono {a b : Array Int} (hs : a.size = b.size) (h0 : 0 < a.size) (h : ∀ i, i < a.size → a[i]! ≤ b[i]!) : leastN a ≤ leastN b := by
  obtain ⟨i, hi, he⟩ := min_at b.toList b.size (by omega) (by simp)
  have h1 := min_le a.toList a.size (by omega) (by simp) i (by omega)
  rw [toList_getD] at h1 he
  rw [List.take_of_length_le (by simp)] at h1 he
  unfold leastN
  have := h i (by omega)
  omega
end Go.Proofs.Ytpnjodefnpphkaa
