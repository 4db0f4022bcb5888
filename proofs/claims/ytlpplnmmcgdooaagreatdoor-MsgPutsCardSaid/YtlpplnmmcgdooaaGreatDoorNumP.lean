/- Numbers as bytes, in plain words: what is laid, what is read, and that the one comes back of the other. -/
namespace Go.Proofs.YtlpplnmmcgdooaaGreatDoor.Nb

/-- The bytes of a number, the greatest first, without noughts ahead. -/
def be (n : Nat) : List UInt8 := if _h : n = 0 then [] else be (n / 256) ++ [UInt8.ofNat (n % 256)]
  termination_by n
  decreasing_by omega
def numB (n : Nat) : List UInt8 := if n < 128 then [UInt8.ofNat n] else UInt8.ofNat (128 + (be n).length) :: be n
def val (l : List UInt8) : Nat := l.foldl (fun a b => 256 * a + b.toNat) 0
/-- What is read: a number and how many bytes it took, or an error. -/
inductive GR where
  | ok (n k : Nat)
  | no (e : Nat)
  deriving DecidableEq
def getL : List UInt8 → GR
  | [] => .no 4
  | b :: t => if b.toNat < 128 then .ok b.toNat 1 else if b.toNat = 128 ∨ 136 < b.toNat then .no 5 else if t.length < b.toNat - 128 then .no 4
    else if t.head? = some 0 ∨ val (t.take (b.toNat - 128)) < 128 then .no 5 else if 9223372036854775807 < val (t.take (b.toNat - 128)) then .no 3 else .ok (val (t.take (b.toNat - 128))) (1 + (b.toNat - 128))
theorem be_zero : be 0 = [] := by rw [be]; simp
theorem be_pos {n : Nat} (h : n ≠ 0) : be n = be (n / 256) ++ [UInt8.ofNat (n % 256)] := by rw [be]; simp [h]
theorem val_snoc (l : List UInt8) (b : UInt8) : val (l ++ [b]) = 256 * val l + b.toNat := by simp [val, List.foldl_append]
theorem val_nil : val [] = 0 := rfl
theorem toNat_ofNat {n : Nat} (h : n < 256) : (UInt8.ofNat n).toNat = n := by
  simp [UInt8.toNat_ofNat']; omega
theorem val_be (n : Nat) : val (be n) = n := by
  induction n using Nat.strongRecOn with
  | _ n ih =>
    by_cases h : n = 0
    · subst h; rw [be_zero]; rfl
    · rw [be_pos h, val_snoc, ih (n / 256) (by omega), toNat_ofNat (by omega)]; omega
theorem be_len (n : Nat) : ∀ k, n < 256 ^ k → (be n).length ≤ k := by
  induction n using Nat.strongRecOn with
  | _ n ih =>
    intro k hk
    by_cases h : n = 0
    · subst h; rw [be_zero]; simp
    · cases k with
      | zero => simp at hk; omega
      | succ k =>
        rw [be_pos h, List.length_append]
        have := ih (n / 256) (by omega) k (by rw [Nat.pow_succ] at hk; exact Nat.div_lt_of_lt_mul (by omega))
        simp; omega
theorem be_pos_len {n : Nat} (h : n ≠ 0) : 0 < (be n).length := by rw [be_pos h]; simp
theorem be_head (n : Nat) : (be n).head? ≠ some 0 := by
  induction n using Nat.strongRecOn with
  | _ n ih =>
    by_cases h : n = 0
    · subst h; rw [be_zero]; simp
    · rw [be_pos h]
      by_cases h2 : n / 256 = 0
      · rw [h2, be_zero]
        simp only [List.nil_append, List.head?_cons]
        intro e
        injection e with e
        have : (UInt8.ofNat (n % 256)).toNat = 0 := by rw [e]; rfl
        rw [toNat_ofNat (by omega)] at this
        omega
      · have := ih (n / 256) (by omega)
        have hl := be_pos_len h2
        match hb : be (n / 256), hl with
        | x :: xs, _ => rw [hb] at this; simpa using this
theorem val_go (l : List UInt8) : ∀ a : Nat, l.foldl (fun a b => 256 * a + b.toNat) a = a * 256 ^ l.length + val l := by
  induction l with
  | nil => intro a; simp [val]
  | cons b l ih =>
    intro a
    have h1 := ih (256 * a + b.toNat)
    have h2 := ih (256 * 0 + b.toNat)
    simp only [val, List.foldl_cons, List.length_cons] at h1 h2 ⊢
    rw [h1, h2, Nat.pow_succ, Nat.mul_zero, Nat.zero_add, Nat.add_mul]
    have : 256 * a * 256 ^ l.length = a * (256 ^ l.length * 256) := by rw [Nat.mul_comm 256 a, Nat.mul_assoc, Nat.mul_comm 256]
    omega
theorem val_cons (b : UInt8) (l : List UInt8) : val (b :: l) = b.toNat * 256 ^ l.length + val l := by
  have := val_go l (256 * 0 + b.toNat)
  simpa [val] using this
theorem val_lt (l : List UInt8) : val l < 256 ^ l.length := by
  induction l with
  | nil => simp [val]
  | cons b l ih =>
    rw [val_cons, List.length_cons, Nat.pow_succ]
    have hb := b.toNat_lt
    have : b.toNat * 256 ^ l.length + 256 ^ l.length ≤ 256 ^ l.length * 256 := by
      rw [← Nat.succ_mul, Nat.mul_comm]
      exact Nat.mul_le_mul_left _ (by omega)
    omega
/-- Bytes with no nought ahead are those of their value. -/
theorem be_val (l : List UInt8) (h : l.head? ≠ some 0) : be (val l) = l := by
  have key : ∀ n, ∀ l : List UInt8, l.length = n → l.head? ≠ some 0 → be (val l) = l := by
    intro n
    induction n with
    | zero => intro l hl _; rw [List.length_eq_zero_iff.1 hl]; exact be_zero
    | succ n ih =>
      intro l hl h
      rcases List.eq_nil_or_concat l with e | ⟨m, b, e⟩
      · subst e; simp at hl
      · rw [List.concat_eq_append] at e
        subst e
        have hb := b.toNat_lt
        have hm : m.head? ≠ some 0 := by
          cases m with
          | nil => simp
          | cons x m => simpa using h
        have hv := ih m (by simpa using hl) hm
        have hne : val (m ++ [b]) ≠ 0 := by
          intro h0
          rw [val_snoc] at h0
          have hm0 : val m = 0 := by omega
          rw [hm0, be_zero] at hv
          subst hv
          have hb0 : b.toNat = 0 := by omega
          exact h (by simp; exact UInt8.toNat_inj.1 hb0)
        rw [be_pos hne, val_snoc]
        have e1 : (256 * val m + b.toNat) / 256 = val m := by omega
        have e2 : (256 * val m + b.toNat) % 256 = b.toNat := by omega
        rw [e1, e2, hv]
        congr 1
        simp
  exact key _ l rfl h
theorem numB_len (n : Nat) (h : n ≤ 9223372036854775807) : (numB n).length ≤ 9 := by
  unfold numB
  split
  · simp
  · have := be_len n 8 (by omega)
    simp; omega
theorem numB_pos (n : Nat) : 0 < (numB n).length := by unfold numB; split <;> simp
/-- A number comes back of its bytes. -/
theorem getL_numB (n : Nat) (h : n ≤ 9223372036854775807) (t : List UInt8) : getL (numB n ++ t) = .ok n (numB n).length := by
  unfold numB
  split
  · rename_i h1
    simp only [List.cons_append, List.nil_append, getL]
    rw [toNat_ofNat (by omega), if_pos h1]
    simp
  · rename_i h1
    have hl := be_len n 8 (by omega)
    have hp := be_pos_len (n := n) (by omega)
    simp only [List.cons_append, getL]
    rw [toNat_ofNat (by omega), if_neg (by omega), if_neg (by omega), if_neg (by simp)]
    have e1 : 128 + (be n).length - 128 = (be n).length := by omega
    rw [e1, List.take_left, val_be, if_neg, if_neg (by omega)]
    · simp <;> omega
    · have := be_head n
      rintro (h2 | h2)
      · match hb : be n, hp with
        | x :: xs, _ => rw [hb] at this h2; simp at this h2; exact this h2
      · exact h1 h2
/-- What is read as a number is just its bytes. -/
theorem getL_ok {s : List UInt8} {n k : Nat} (h : getL s = .ok n k) : s.take k = numB n ∧ k = (numB n).length ∧ k ≤ s.length ∧ n ≤ 9223372036854775807 := by
  cases s with
  | nil => simp [getL] at h
  | cons b t =>
    simp only [getL] at h
    have hb := b.toNat_lt
    split at h
    · rename_i h1
      injection h with h2 h3
      subst h2 h3
      unfold numB
      rw [if_pos h1]
      simp; omega
    · rename_i h1
      split at h
      · cases h
      · rename_i h2
        split at h
        · cases h
        · rename_i h3
          split at h
          · cases h
          · rename_i h4
            split at h
            · cases h
            · rename_i h5
              injection h with h6 h7
              have hd : (t.take (b.toNat - 128)).head? ≠ some 0 := by
                rw [List.head?_take, if_neg (by omega)]
                exact fun e => h4 (Or.inl e)
              have hbv := be_val _ hd
              have e1 : numB n = b :: t.take (b.toNat - 128) := by
                unfold numB
                rw [← h6, if_neg (fun e => h4 (Or.inr e)), hbv, List.length_take, Nat.min_eq_left (by omega)]
                have : 128 + (b.toNat - 128) = b.toNat := by omega
                rw [this, UInt8.ofNat_toNat]
              rw [e1, ← h7]
              refine ⟨?_, ?_, ?_, by omega⟩
              · rw [Nat.add_comm, List.take_succ_cons]
              · simp; omega
              · simp; omega
theorem getL_cut {s : List UInt8} {n k : Nat} (h : getL s = .ok n k) (t : List UInt8) : getL (s ++ t) = .ok n k := by
  obtain ⟨h1, h2, h3, h4⟩ := getL_ok h
  have : s ++ t = numB n ++ (s.drop k ++ t) := by rw [← h1, ← List.append_assoc, List.take_append_drop]
  rw [this, getL_numB n h4, h2]
end Go.Proofs.YtlpplnmmcgdooaaGreatDoor.Nb
