/- Numbers as bytes, in plain words: what is laid, what is read, and that the one comes back of the other. Pieces of bytes, in plain words: rows, texts and flags laid and read; what was laid is read, and what is read was laid. -/

namespace Go.Proofs.YtlpplnmmcgdooaaGreatDoor.Nb

/-- The bytes of a number, the greatest first, without noughts ahead. -/
def be (n : Nat) : List UInt8 := if _h : n = 0 then [] else be (n / 256) ++ [UInt8.ofNat (n % 256)]
  termination_by n
  decreasing_by omega
def numB (n : Nat) : List UInt8 := if n < 128 then [UInt8.ofNat n] else UInt8.ofNat (128 + (be n).length) :: be n
def val (l : List UInt8) : Nat := l.foldl (fun a b => 256 * a + b.toNat) 0
/-- What is read: a number and how many bytes it took, or an error. -/
inductive GR where
  | ok (n k : Nat)
  | no (e : Nat)
  deriving DecidableEq
def getL : List UInt8 → GR
  | [] => .no 4
  | b :: t => if b.toNat < 128 then .ok b.toNat 1 else if b.toNat = 128 ∨ 136 < b.toNat then .no 5 else if t.length < b.toNat - 128 then .no 4
    else if t.head? = some 0 ∨ val (t.take (b.toNat - 128)) < 128 then .no 5 else if 9223372036854775807 < val (t.take (b.toNat - 128)) then .no 3 else .ok (val (t.take (b.toNat - 128))) (1 + (b.toNat - 128))
theorem be_zero : be 0 = [] := by rw [be]; simp
theorem be_pos {n : Nat} (h : n ≠ 0) : be n = be (n / 256) ++ [UInt8.ofNat (n % 256)] := by rw [be]; simp [h]
theorem val_snoc (l : List UInt8) (b : UInt8) : val (l ++ [b]) = 256 * val l + b.toNat := by simp [val, List.foldl_append]
theorem val_nil : val [] = 0 := rfl
theorem toNat_ofNat {n : Nat} (h : n < 256) : (UInt8.ofNat n).toNat = n := by
  simp [UInt8.toNat_ofNat']; omega
theorem val_be (n : Nat) : val (be n) = n := by
  induction n using Nat.strongRecOn with
  | _ n ih =>
    by_cases h : n = 0
    · subst h; rw [be_zero]; rfl
    · rw [be_pos h, val_snoc, ih (n / 256) (by omega), toNat_ofNat (by omega)]; omega
theorem be_len (n : Nat) : ∀ k, n < 256 ^ k → (be n).length ≤ k := by
  induction n using Nat.strongRecOn with
  | _ n ih =>
    intro k hk
    by_cases h : n = 0
    · subst h; rw [be_zero]; simp
    · cases k with
      | zero => simp at hk; omega
      | succ k =>
        rw [be_pos h, List.length_append]
        have := ih (n / 256) (by omega) k (by rw [Nat.pow_succ] at hk; exact Nat.div_lt_of_lt_mul (by omega))
        simp; omega
theorem be_pos_len {n : Nat} (h : n ≠ 0) : 0 < (be n).length := by rw [be_pos h]; simp
theorem be_head (n : Nat) : (be n).head? ≠ some 0 := by
  induction n using Nat.strongRecOn with
  | _ n ih =>
    by_cases h : n = 0
    · subst h; rw [be_zero]; simp
    · rw [be_pos h]
      by_cases h2 : n / 256 = 0
      · rw [h2, be_zero]
        simp only [List.nil_append, List.head?_cons]
        intro e
        injection e with e
        have : (UInt8.ofNat (n % 256)).toNat = 0 := by rw [e]; rfl
        rw [toNat_ofNat (by omega)] at this
        omega
      · have := ih (n / 256) (by omega)
        have hl := be_pos_len h2
        match hb : be (n / 256), hl with
        | x :: xs, _ => rw [hb] at this; simpa using this
theorem val_go (l : List UInt8) : ∀ a : Nat, l.foldl (fun a b => 256 * a + b.toNat) a = a * 256 ^ l.length + val l := by
  induction l with
  | nil => intro a; simp [val]
  | cons b l ih =>
    intro a
    have h1 := ih (256 * a + b.toNat)
    have h2 := ih (256 * 0 + b.toNat)
    simp only [val, List.foldl_cons, List.length_cons] at h1 h2 ⊢
    rw [h1, h2, Nat.pow_succ, Nat.mul_zero, Nat.zero_add, Nat.add_mul]
    have : 256 * a * 256 ^ l.length = a * (256 ^ l.length * 256) := by rw [Nat.mul_comm 256 a, Nat.mul_assoc, Nat.mul_comm 256]
    omega
theorem val_cons (b : UInt8) (l : List UInt8) : val (b :: l) = b.toNat * 256 ^ l.length + val l := by
  have := val_go l (256 * 0 + b.toNat)
  simpa [val] using this
theorem val_lt (l : List UInt8) : val l < 256 ^ l.length := by
  induction l with
  | nil => simp [val]
  | cons b l ih =>
    rw [val_cons, List.length_cons, Nat.pow_succ]
    have hb := b.toNat_lt
    have : b.toNat * 256 ^ l.length + 256 ^ l.length ≤ 256 ^ l.length * 256 := by
      rw [← Nat.succ_mul, Nat.mul_comm]
      exact Nat.mul_le_mul_left _ (by omega)
    omega
/-- Bytes with no nought ahead are those of their value. -/
theorem be_val (l : List UInt8) (h : l.head? ≠ some 0) : be (val l) = l := by
  have key : ∀ n, ∀ l : List UInt8, l.length = n → l.head? ≠ some 0 → be (val l) = l := by
    intro n
    induction n with
    | zero => intro l hl _; rw [List.length_eq_zero_iff.1 hl]; exact be_zero
    | succ n ih =>
      intro l hl h
      rcases List.eq_nil_or_concat l with e | ⟨m, b, e⟩
      · subst e; simp at hl
      · rw [List.concat_eq_append] at e
        subst e
        have hb := b.toNat_lt
        have hm : m.head? ≠ some 0 := by
          cases m with
          | nil => simp
          | cons x m => simpa using h
        have hv := ih m (by simpa using hl) hm
        have hne : val (m ++ [b]) ≠ 0 := by
          intro h0
          rw [val_snoc] at h0
          have hm0 : val m = 0 := by omega
          rw [hm0, be_zero] at hv
          subst hv
          have hb0 : b.toNat = 0 := by omega
          exact h (by simp; exact UInt8.toNat_inj.1 hb0)
        rw [be_pos hne, val_snoc]
        have e1 : (256 * val m + b.toNat) / 256 = val m := by omega
        have e2 : (256 * val m + b.toNat) % 256 = b.toNat := by omega
        rw [e1, e2, hv]
        congr 1
        simp
  exact key _ l rfl h
theorem numB_len (n : Nat) (h : n ≤ 9223372036854775807) : (numB n).length ≤ 9 := by
  unfold numB
  split
  · simp
  · have := be_len n 8 (by omega)
    simp; omega
theorem numB_pos (n : Nat) : 0 < (numB n).length := by unfold numB; split <;> simp
/-- A number comes back of its bytes. -/
theorem getL_numB (n : Nat) (h : n ≤ 9223372036854775807) (t : List UInt8) : getL (numB n ++ t) = .ok n (numB n).length := by
  unfold numB
  split
  · rename_i h1
    simp only [List.cons_append, List.nil_append, getL]
    rw [toNat_ofNat (by omega), if_pos h1]
    simp
  · rename_i h1
    have hl := be_len n 8 (by omega)
    have hp := be_pos_len (n := n) (by omega)
    simp only [List.cons_append, getL]
    rw [toNat_ofNat (by omega), if_neg (by omega), if_neg (by omega), if_neg (by simp)]
    have e1 : 128 + (be n).length - 128 = (be n).length := by omega
    rw [e1, List.take_left, val_be, if_neg, if_neg (by omega)]
    · simp <;> omega
    · have := be_head n
      rintro (h2 | h2)
      · match hb : be n, hp with
        | x :: xs, _ => rw [hb] at this h2; simp at this h2; exact this h2
      · exact h1 h2
/-- What is read as a number is just its bytes. -/
theorem getL_ok {s : List UInt8} {n k : Nat} (h : getL s = .ok n k) : s.take k = numB n ∧ k = (numB n).length ∧ k ≤ s.length ∧ n ≤ 9223372036854775807 := by
  cases s with
  | nil => simp [getL] at h
  | cons b t =>
    simp only [getL] at h
    have hb := b.toNat_lt
    split at h
    · rename_i h1
      injection h with h2 h3
      subst h2 h3
      unfold numB
      rw [if_pos h1]
      simp; omega
    · rename_i h1
      split at h
      · cases h
      · rename_i h2
        split at h
        · cases h
        · rename_i h3
          split at h
          · cases h
          · rename_i h4
            split at h
            · cases h
            · rename_i h5
              injection h with h6 h7
              have hd : (t.take (b.toNat - 128)).head? ≠ some 0 := by
                rw [List.head?_take, if_neg (by omega)]
                exact fun e => h4 (Or.inl e)
              have hbv := be_val _ hd
              have e1 : numB n = b :: t.take (b.toNat - 128) := by
                unfold numB
                rw [← h6, if_neg (fun e => h4 (Or.inr e)), hbv, List.length_take, Nat.min_eq_left (by omega)]
                have : 128 + (b.toNat - 128) = b.toNat := by omega
                rw [this, UInt8.ofNat_toNat]
              rw [e1, ← h7]
              refine ⟨?_, ?_, ?_, by omega⟩
              · rw [Nat.add_comm, List.take_succ_cons]
              · simp; omega
              · simp; omega
theorem getL_cut {s : List UInt8} {n k : Nat} (h : getL s = .ok n k) (t : List UInt8) : getL (s ++ t) = .ok n k := by
  obtain ⟨h1, h2, h3, h4⟩ := getL_ok h
  have : s ++ t = numB n ++ (s.drop k ++ t) := by rw [← h1, ← List.append_assoc, List.take_append_drop]
  rw [this, getL_numB n h4, h2]
end Go.Proofs.YtlpplnmmcgdooaaGreatDoor.Nb
namespace Go.Proofs.YtlpplnmmcgdooaaGreatDoor.Nb
def big : Nat := 9223372036854775807
def rowB (l : List Nat) : List UInt8 := numB l.length ++ l.flatMap numB
def textB (t : List UInt8) : List UInt8 := numB t.length ++ t
def flagB (b : Bool) : List UInt8 := if b then [1] else [0]
inductive UR where
  | ok (l : List Nat) (k : Nat)
  | no (e : Nat)
def UR.glue (l : List Nat) (k : Nat) : UR → UR
  | .ok m j => .ok (l ++ m) (k + j)
  | .no e => .no e
def unL : Nat → List UInt8 → UR
  | 0, _ => .ok [] 0
  | m + 1, s => match getL s with
    | .no e => .no e
    | .ok n k => (unL m (s.drop k)).glue [n] k
theorem UR.glue_glue (l l' : List Nat) (k k' : Nat) (r : UR) : (r.glue l' k').glue l k = r.glue (l ++ l') (k + k') := by
  cases r <;> simp [UR.glue, Nat.add_assoc]
theorem UR.glue_nil (r : UR) : r.glue [] 0 = r := by cases r <;> simp [UR.glue]
theorem unL_row (l : List Nat) (t : List UInt8) (h : ∀ n ∈ l, n ≤ 9223372036854775807) : unL l.length (l.flatMap numB ++ t) = .ok l (l.flatMap numB).length := by
  induction l with
  | nil => rfl
  | cons n l ih =>
    simp only [List.length_cons, unL, List.flatMap_cons, List.append_assoc]
    rw [getL_numB n (h n (by simp))]
    simp only [List.drop_left]
    rw [ih (fun x hx => h x (by simp [hx]))]
    simp [UR.glue]
theorem unL_ok : ∀ (m : Nat) (s : List UInt8) (l : List Nat) (k : Nat), unL m s = .ok l k → l.length = m ∧ s.take k = l.flatMap numB ∧ k = (l.flatMap numB).length ∧ k ≤ s.length ∧ ∀ n ∈ l, n ≤ 9223372036854775807
  | 0, s, l, k, h => by
    injection h with h1 h2
    subst h1 h2
    simp
  | m + 1, s, l, k, h => by
    simp only [unL] at h
    cases hg : getL s with
    | no e => rw [hg] at h; cases h
    | ok n j =>
      rw [hg] at h
      obtain ⟨g1, g2, g3, g4⟩ := getL_ok hg
      cases hu : unL m (s.drop j) with
      | no e => simp only [hu] at h; cases h
      | ok l' k' =>
        simp only [hu, UR.glue] at h
        injection h with h1 h2
        obtain ⟨a1, a2, a3, a4, a5⟩ := unL_ok m (s.drop j) l' k' hu
        subst h1 h2
        rw [List.length_drop] at a4
        refine ⟨by simp [a1], ?_, ?_, by omega, ?_⟩
        · rw [List.take_add, g1, a2]; simp
        · simp [← g2, ← a3]
        · intro x hx
          simp at hx
          rcases hx with rfl | hx
          · exact g4
          · exact a5 x hx
/-- A reader: a place, and an error's number (0: none). -/
structure RS where
  pos : Nat
  e : Nat
def numR (s : List UInt8) (most : Nat) (r : RS) : RS × Nat := if r.e ≠ 0 then (r, 0) else match getL (s.drop r.pos) with
  | .no e => (⟨r.pos, e⟩, 0)
  | .ok n k => if most < n then (⟨r.pos, 3⟩, 0) else (⟨r.pos + k, 0⟩, n)
def textR (s : List UInt8) (most : Nat) (r : RS) : RS × List UInt8 := if r.e ≠ 0 then (r, []) else match getL (s.drop r.pos) with
  | .no e => (⟨r.pos, e⟩, [])
  | .ok n k => if most < n then (⟨r.pos, 3⟩, []) else if s.length - (r.pos + k) < n then (⟨r.pos, 4⟩, []) else (⟨r.pos + k + n, 0⟩, (s.drop (r.pos + k)).take n)
/-- What is read as a row, at a place. -/
def unrow (s : List UInt8) (top : Nat) : UR := match getL s with
  | .no e => .no e
  | .ok n k => if min top 1000 < n then .no 3 else (unL n (s.drop k)).glue [] k
def rowR (s : List UInt8) (most : Nat) (r : RS) : RS × List Nat := if r.e ≠ 0 then (r, []) else match unrow (s.drop r.pos) most with
  | .no e => (⟨r.pos, e⟩, [])
  | .ok l k => (⟨r.pos + k, 0⟩, l)
def flagR (s : List UInt8) (r : RS) : RS × Bool := if r.e ≠ 0 then (r, false) else match s.drop r.pos with
  | [] => (⟨r.pos, 4⟩, false)
  | b :: _ => if 1 < b.toNat then (⟨r.pos, 5⟩, false) else (⟨r.pos + 1, 0⟩, b.toNat == 1)
def endR (s : List UInt8) (r : RS) : RS := if r.e = 0 ∧ r.pos < s.length then ⟨r.pos, 6⟩ else r
theorem getL_no {s : List UInt8} {e : Nat} (h : getL s = .no e) : e = 3 ∨ e = 4 ∨ e = 5 := by
  cases s with
  | nil => simp [getL] at h; omega
  | cons b t => simp only [getL] at h; (repeat' split at h) <;> first | (cases h; done) | (injection h with h; subst h; simp) 
theorem unL_no : ∀ (m : Nat) (s : List UInt8) (e : Nat), unL m s = .no e → e = 3 ∨ e = 4 ∨ e = 5
  | 0, _, _, h => by cases h
  | m + 1, s, e, h => by
    simp only [unL] at h
    cases hg : getL s with
    | no e' => rw [hg] at h; injection h with h; subst h; exact getL_no hg
    | ok n k =>
      rw [hg] at h
      cases hu : unL m (s.drop k) with
      | no e' => simp only [hu, UR.glue] at h; injection h with h; subst h; exact unL_no m _ _ hu
      | ok l j => simp only [hu, UR.glue] at h; cases h
theorem unrow_no {s : List UInt8} {top e : Nat} (h : unrow s top = .no e) : e = 3 ∨ e = 4 ∨ e = 5 := by
  unfold unrow at h
  cases hg : getL s with
  | no e' => rw [hg] at h; injection h with h; subst h; exact getL_no hg
  | ok n k =>
    rw [hg] at h
    simp only at h
    split at h
    · injection h with h; omega
    · cases hu : unL n (s.drop k) with
      | no e' => simp only [hu, UR.glue] at h; injection h with h; subst h; exact unL_no n _ _ hu
      | ok l j => simp only [hu, UR.glue] at h; cases h
/-! what was laid is read -/
section
variable {s t : List UInt8} {r : RS} {most : Nat}
theorem drop_next {p : List UInt8} (h : s.drop r.pos = p ++ t) : s.drop (r.pos + p.length) = t := by
  rw [← List.drop_drop, h, List.drop_left]
theorem numR_laid {n : Nat} (hr : r.e = 0) (h : s.drop r.pos = numB n ++ t) (hb : n ≤ 9223372036854775807) (hn : n ≤ most) : numR s most r = (⟨r.pos + (numB n).length, 0⟩, n) := by
  unfold numR
  rw [if_neg (by simp [hr]), h, getL_numB n hb]
  simp only
  rw [if_neg (by omega)]
theorem textR_laid {p : List UInt8} (hr : r.e = 0) (h : s.drop r.pos = textB p ++ t) (hb : p.length ≤ 9223372036854775807) (hn : p.length ≤ most) : textR s most r = (⟨r.pos + (textB p).length, 0⟩, p) := by
  unfold textB at h
  rw [List.append_assoc] at h
  have hd := drop_next h
  have hl : s.length - (r.pos + (numB p.length).length) = p.length + t.length := by
    rw [← List.length_drop, hd, List.length_append]
  unfold textR
  rw [if_neg (by simp [hr]), h, getL_numB _ hb]
  simp only
  rw [if_neg (by omega), if_neg (by omega), hd, List.take_left]
  simp [textB, Nat.add_assoc]
theorem rowR_laid {l : List Nat} (hr : r.e = 0) (h : s.drop r.pos = rowB l ++ t) (hl : l.length ≤ most) (hm : most ≤ 1000) (hb : ∀ n ∈ l, n ≤ 9223372036854775807) : rowR s most r = (⟨r.pos + (rowB l).length, 0⟩, l) := by
  unfold rowB at h
  rw [List.append_assoc] at h
  unfold rowR unrow
  rw [if_neg (by simp [hr]), h, getL_numB _ (by omega)]
  simp only
  rw [if_neg (by omega), List.drop_left, unL_row l t hb]
  simp [UR.glue, rowB]
theorem flagR_laid {b : Bool} (hr : r.e = 0) (h : s.drop r.pos = flagB b ++ t) : flagR s r = (⟨r.pos + 1, 0⟩, b) := by
  unfold flagR
  rw [if_neg (by simp [hr]), h]
  cases b <;> simp [flagB]
/-! what is read was laid -/
theorem numR_ok {r' : RS} {n : Nat} (h : numR s most r = (r', n)) (he : r'.e = 0) : r.e = 0 ∧ s.drop r.pos = numB n ++ s.drop r'.pos ∧ n ≤ most ∧ n ≤ 9223372036854775807 ∧ (r.pos ≤ s.length → r'.pos ≤ s.length) := by
  unfold numR at h
  split at h
  · rename_i h1; injection h with h2 h3; subst h2; exact absurd he h1
  · rename_i h1
    cases hg : getL (s.drop r.pos) with
    | no e =>
      rw [hg] at h; injection h with h2 h3; subst h2
      have := getL_no hg
      simp at he; omega
    | ok m k =>
      rw [hg] at h
      simp only at h
      split at h
      · injection h with h2 h3; subst h2; simp at he
      · injection h with h2 h3
        subst h2 h3
        obtain ⟨g1, g2, g3, g4⟩ := getL_ok hg
        refine ⟨by simpa using h1, ?_, by omega, g4, ?_⟩
        · rw [← g1, ← List.drop_drop, List.take_append_drop]
        · intro h; simp at g3; simp; omega
theorem textR_ok {r' : RS} {p : List UInt8} (h : textR s most r = (r', p)) (he : r'.e = 0) : r.e = 0 ∧ s.drop r.pos = textB p ++ s.drop r'.pos ∧ p.length ≤ most ∧ (r.pos ≤ s.length → r'.pos ≤ s.length) := by
  unfold textR at h
  split at h
  · rename_i h1; injection h with h2 h3; subst h2; exact absurd he h1
  · rename_i h1
    cases hg : getL (s.drop r.pos) with
    | no e =>
      rw [hg] at h; injection h with h2 h3; subst h2
      have := getL_no hg
      simp at he; omega
    | ok m k =>
      rw [hg] at h
      simp only at h
      split at h
      · injection h with h2 h3; subst h2; simp at he
      · split at h
        · injection h with h2 h3; subst h2; simp at he
        · injection h with h2 h3
          obtain ⟨g1, g2, g3, g4⟩ := getL_ok hg
          have hp : p.length = m := by rw [← h3, List.length_take, List.length_drop]; omega
          subst h2
          refine ⟨by simpa using h1, ?_, by omega, ?_⟩
          · simp only [textB, hp, ← g1]
            have e1 : s.drop (r.pos + k + m) = (s.drop (r.pos + k)).drop m := by rw [List.drop_drop]
            rw [e1, ← h3, List.append_assoc, List.take_append_drop, ← List.drop_drop, List.take_append_drop]
          · intro h; simp at g3; simp; omega
theorem rowR_ok {r' : RS} {l : List Nat} (h : rowR s most r = (r', l)) (he : r'.e = 0) : r.e = 0 ∧ s.drop r.pos = rowB l ++ s.drop r'.pos ∧ l.length ≤ most ∧ (∀ n ∈ l, n ≤ 9223372036854775807) ∧ (r.pos ≤ s.length → r'.pos ≤ s.length) := by
  unfold rowR at h
  split at h
  · rename_i h1; injection h with h2 h3; subst h2; exact absurd he h1
  · rename_i h1
    cases hg : unrow (s.drop r.pos) most with
    | no e =>
      rw [hg] at h; injection h with h2 h3; subst h2
      have := unrow_no hg
      simp at he; omega
    | ok m k =>
      rw [hg] at h
      injection h with h2 h3
      subst h2 h3
      unfold unrow at hg
      cases hn : getL (s.drop r.pos) with
      | no e => rw [hn] at hg; cases hg
      | ok n j =>
        rw [hn] at hg
        simp only at hg
        split at hg
        · cases hg
        · rename_i h4
          obtain ⟨g1, g2, g3, g4⟩ := getL_ok hn
          cases hu : unL n ((s.drop r.pos).drop j) with
          | no e => rw [hu] at hg; cases hg
          | ok l' k' =>
            rw [hu] at hg
            simp only [UR.glue, List.nil_append] at hg
            injection hg with h5 h6
            subst h5 h6
            obtain ⟨a1, a2, a3, a4, a5⟩ := unL_ok n _ _ _ hu
            rw [List.length_drop] at a4
            refine ⟨by simpa using h1, ?_, by omega, a5, ?_⟩
            · simp only [rowB, a1, ← g1, ← a2, List.append_assoc]
              have e1 : s.drop (r.pos + (j + k')) = ((s.drop r.pos).drop j).drop k' := by rw [List.drop_drop, List.drop_drop]
              rw [e1, List.take_append_drop, List.take_append_drop]
            · intro h; rw [List.length_drop] at a4 g3; simp; omega
theorem flagR_ok {r' : RS} {b : Bool} (h : flagR s r = (r', b)) (he : r'.e = 0) : r.e = 0 ∧ s.drop r.pos = flagB b ++ s.drop r'.pos ∧ (r.pos ≤ s.length → r'.pos ≤ s.length) := by
  unfold flagR at h
  split at h
  · rename_i h1; injection h with h2 h3; subst h2; exact absurd he h1
  · rename_i h1
    cases hd : s.drop r.pos with
    | nil => rw [hd] at h; injection h with h2 h3; subst h2; simp at he
    | cons x t =>
      rw [hd] at h
      simp only at h
      split at h
      · injection h with h2 h3; subst h2; simp at he
      · rename_i h4
        injection h with h2 h3
        subst h2
        have ht : s.drop (r.pos + 1) = t := by rw [← List.drop_drop, hd]; rfl
        have hl : (s.drop r.pos).length = t.length + 1 := by rw [hd]; rfl
        rw [List.length_drop] at hl
        refine ⟨by simpa using h1, ?_, by intro _; simp; omega⟩
        simp only [ht]
        subst h3
        rcases (show x.toNat = 0 ∨ x.toNat = 1 by omega) with h | h
        · have : x = 0 := UInt8.toNat_inj.1 h
          subst this; rfl
        · have : x = 1 := UInt8.toNat_inj.1 h
          subst this; rfl
theorem numR_no {c : Nat} (hr : r.e = 0) (hg : getL (s.drop r.pos) = .no c) : numR s most r = (⟨r.pos, c⟩, 0) := by unfold numR; rw [if_neg (by simp [hr]), hg]
theorem numR_big {n k : Nat} (hr : r.e = 0) (hg : getL (s.drop r.pos) = .ok n k) (hb : most < n) : numR s most r = (⟨r.pos, 3⟩, 0) := by unfold numR; rw [if_neg (by simp [hr]), hg]; simp only; rw [if_pos hb]
theorem numR_fit {n k : Nat} (hr : r.e = 0) (hg : getL (s.drop r.pos) = .ok n k) (hb : ¬ most < n) : numR s most r = (⟨r.pos + k, 0⟩, n) := by unfold numR; rw [if_neg (by simp [hr]), hg]; simp only; rw [if_neg hb]
theorem textR_no {c : Nat} (hr : r.e = 0) (hg : getL (s.drop r.pos) = .no c) : textR s most r = (⟨r.pos, c⟩, []) := by unfold textR; rw [if_neg (by simp [hr]), hg]
theorem textR_big {n k : Nat} (hr : r.e = 0) (hg : getL (s.drop r.pos) = .ok n k) (hb : most < n) : textR s most r = (⟨r.pos, 3⟩, []) := by unfold textR; rw [if_neg (by simp [hr]), hg]; simp only; rw [if_pos hb]
theorem textR_short {n k : Nat} (hr : r.e = 0) (hg : getL (s.drop r.pos) = .ok n k) (hb : ¬ most < n) (hl : s.length - (r.pos + k) < n) : textR s most r = (⟨r.pos, 4⟩, []) := by unfold textR; rw [if_neg (by simp [hr]), hg]; simp only; rw [if_neg hb, if_pos hl]
theorem textR_fit {n k : Nat} (hr : r.e = 0) (hg : getL (s.drop r.pos) = .ok n k) (hb : ¬ most < n) (hl : ¬ s.length - (r.pos + k) < n) : textR s most r = (⟨r.pos + k + n, 0⟩, (s.drop (r.pos + k)).take n) := by unfold textR; rw [if_neg (by simp [hr]), hg]; simp only; rw [if_neg hb, if_neg hl]
theorem rowR_no {c : Nat} (hr : r.e = 0) (hg : unrow (s.drop r.pos) most = .no c) : rowR s most r = (⟨r.pos, c⟩, []) := by unfold rowR; rw [if_neg (by simp [hr]), hg]
theorem rowR_fit {l : List Nat} {k : Nat} (hr : r.e = 0) (hg : unrow (s.drop r.pos) most = .ok l k) : rowR s most r = (⟨r.pos + k, 0⟩, l) := by unfold rowR; rw [if_neg (by simp [hr]), hg]
theorem unrow_ok {top k : Nat} {l : List Nat} (h : unrow s top = .ok l k) : k ≤ s.length ∧ l.length ≤ top := by
  unfold unrow at h
  cases hn : getL s with
  | no e => rw [hn] at h; cases h
  | ok n j =>
    rw [hn] at h
    simp only at h
    split at h
    · cases h
    · obtain ⟨g1, g2, g3, g4⟩ := getL_ok hn
      cases hu : unL n (s.drop j) with
      | no e => rw [hu] at h; cases h
      | ok l' k' =>
        rw [hu] at h
        simp only [UR.glue, List.nil_append] at h
        injection h with h5 h6
        obtain ⟨a1, a2, a3, a4, a5⟩ := unL_ok n _ _ _ hu
        rw [List.length_drop] at a4
        subst h5
        omega
theorem numR_bad (h : r.e ≠ 0) : numR s most r = (r, 0) := by unfold numR; rw [if_pos h]
theorem textR_bad (h : r.e ≠ 0) : textR s most r = (r, []) := by unfold textR; rw [if_pos h]
theorem rowR_bad (h : r.e ≠ 0) : rowR s most r = (r, []) := by unfold rowR; rw [if_pos h]
theorem flagR_bad (h : r.e ≠ 0) : flagR s r = (r, false) := by unfold flagR; rw [if_pos h]
end
end Go.Proofs.YtlpplnmmcgdooaaGreatDoor.Nb
