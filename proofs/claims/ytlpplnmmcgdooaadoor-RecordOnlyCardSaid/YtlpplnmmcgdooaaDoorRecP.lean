/- Records, in plain words: whether one may be, its bytes, and what is read of bytes. -/
import Derived.Test.YtlpplnmmcgdooaaDoorTakeP
namespace Go.Proofs.YtlpplnmmcgdooaaDoor
open Go.RowKit Nb

/-- A record. -/
structure PR where
  ep : Int
  sq : Int
  sn : Bool
  k : Int
  dt : ByteArray
  st : ByteArray
/-- A record with nothing in it. -/
def zR : PR := ⟨0, 0, false, 0, ⟨#[]⟩, ⟨#[]⟩⟩
/-- An event's code. -/
def evC (k : Int) (d : ByteArray) : Nat := if k = 1 then (if d.size ≤ 300 then 0 else 2) else if k = 2 then (if takeC d.data.toList = 0 then 0 else 2) else if k = 3 then (if d.size = 0 then 0 else 2) else 30
/-- A record's numbers. -/
def headR (r : PR) : Bool := decide (1 ≤ r.ep) && decide (r.ep ≤ 1000000) && decide (0 ≤ r.sq) && decide (r.sq ≤ 1000000) && (r.sn == (r.sq == 0))
/-- What a record tells. -/
def bodyR (r : PR) : Bool := if r.sn then decide (r.k = 0) && decide (r.dt.size = 0) && decide (r.st.size ≤ 18000) else decide (evC r.k r.dt = 0) && decide (r.st.size = 0)
def recC (r : PR) : Nat := if headR r && bodyR r then 0 else 2
theorem recC_2 (r : PR) : recC r = 0 ∨ recC r = 2 := by unfold recC; split <;> simp
theorem evC_3 (k : Int) (d : ByteArray) : evC k d = 0 ∨ evC k d = 2 ∨ evC k d = 30 := by unfold evC; (repeat' split) <;> simp
/-- A record's bytes. -/
def recB (r : PR) : List UInt8 := numB r.ep.toNat ++ numB r.sq.toNat ++ flagB r.sn ++ (if r.sn then textB r.st.data.toList else numB r.k.toNat ++ textB r.dt.data.toList)
/-- What is read of bytes. -/
def recA (s : List UInt8) : RS × Nat := numR s 1000000 ⟨0, 0⟩
def recQ (s : List UInt8) : RS × Nat := numR s 1000000 (recA s).1
def recF (s : List UInt8) : RS × Bool := flagR s (recQ s).1
def recS (s : List UInt8) : RS × List UInt8 := textR s 18000 (recF s).1
def recK (s : List UInt8) : RS × Nat := numR s 9 (recF s).1
def recD (s : List UInt8) : RS × List UInt8 := textR s 5000 (recK s).1
def recR (s : List UInt8) : RS := if (recF s).2 then endR s (recS s).1 else endR s (recD s).1
def recO (s : List UInt8) : PR := if (recF s).2 then ⟨(recA s).2, (recQ s).2, true, 0, ⟨#[]⟩, ⟨(recS s).2.toArray⟩⟩ else ⟨(recA s).2, (recQ s).2, false, (recK s).2, ⟨(recD s).2.toArray⟩, ⟨#[]⟩⟩
/-- The code that Take tells. -/
def rtC (s : List UInt8) : Nat := if (recR s).e ≠ 0 then (recR s).e else recC (recO s)
theorem ba_eq (b : ByteArray) : (⟨b.data.toList.toArray⟩ : ByteArray) = b := by cases b; simp
theorem ba_nil {b : ByteArray} (h : b.size = 0) : b = ⟨#[]⟩ := by
  cases b with
  | mk d => have : d.size = 0 := h; rw [Array.eq_empty_of_size_eq_zero this]
theorem evC_k {k : Int} {d : ByteArray} (h : evC k d = 0) : 1 ≤ k ∧ k ≤ 3 := by
  unfold evC at h
  (repeat' split at h) <;> first | omega | cases h
theorem numB_sum8 (l : List Nat) : (∀ n ∈ l, n ≤ 2000000) → (l.flatMap numB).length ≤ 9 * l.length := by
  intro h
  induction l with
  | nil => simp
  | cons n l ih =>
    have h1 := numB_len n (by have := h n (by simp); omega)
    have h2 := ih (fun x hx => h x (by simp [hx]))
    rw [List.flatMap_cons, List.length_append, List.length_cons]
    omega
/-- A message's bytes are few. -/
theorem takeC_len {s : List UInt8} (h : takeC s = 0) : s.length ≤ 4300 := by
  obtain ⟨_, _, h3, h4⟩ := takeC_ok h none 0 none 0
  have hok := okM_of h3
  generalize pmOf (rawOf s) none 0 none 0 = m at h3 h4 hok
  rw [← h4]
  have hla : (nats (flA m.ats.toList).toArray).length ≤ 400 := by
    have := hok.ats
    rw [nats_len, List.size_toArray, flA_len]
    simp
    omega
  have hlm : (nats m.mks).length ≤ 9 := by rw [nats_len]; exact hok.mks
  have f1 := flat_len (nats (flA m.ats.toList).toArray) hok.la.nats
  have f2 := flat_len (nats m.mks) hok.lm.nats
  have l8 : (nats (m8 m)).length = 8 := by rw [nats_len]; rfl
  have l3 : (nats (m3 m)).length = 3 := by rw [nats_len]; rfl
  have b8 : ∀ n ∈ nats (m8 m), n ≤ 2000000 := nats_le (by
    intro x hx
    obtain ⟨h1, h2, h3, h4, h5, h6, h7, h8, -⟩ := hok
    simp [m8] at hx
    omega)
  have b3 : ∀ n ∈ nats (m3 m), n ≤ 2000000 := nats_le (by
    intro x hx
    have h1 := hok.lo
    have h2 := hok.hi
    have h3 := hok.dn
    simp [m3] at hx
    omega)
  have g8 := numB_sum8 _ b8
  have g3 := numB_sum8 _ b3
  have hp := hok.pay
  have q1 := numB_len m.pay.data.toList.length (by simp; omega)
  have q2 := numB_len (nats (flA m.ats.toList).toArray).length (by omega)
  have q3 := numB_len (nats m.mks).length (by omega)
  have hpl : m.pay.data.toList.length = m.pay.size := by simp
  unfold msgB textB rowB
  simp only [List.length_append]
  omega
theorem evC_len {k : Int} {d : ByteArray} (h : evC k d = 0) : d.size ≤ 5000 := by
  unfold evC at h
  split at h
  · split at h
    · omega
    · cases h
  · split at h
    · split at h
      · rename_i h2
        have := takeC_len h2
        have e : d.data.toList.length = d.size := by simp
        omega
      · cases h
    · split at h
      · split at h
        · omega
        · cases h
      · cases h
theorem recC_ok {r : PR} (h : recC r = 0) : 1 ≤ r.ep ∧ r.ep ≤ 1000000 ∧ 0 ≤ r.sq ∧ r.sq ≤ 1000000 ∧ (r.sn = true → r.k = 0 ∧ r.dt = ⟨#[]⟩ ∧ r.st.size ≤ 18000) ∧ (r.sn = false → 1 ≤ r.k ∧ r.k ≤ 3 ∧ r.dt.size ≤ 5000 ∧ r.st = ⟨#[]⟩) := by
  unfold recC at h
  split at h
  · rename_i hh
    obtain ⟨h1, h2⟩ := (Bool.and_eq_true _ _).mp hh
    unfold headR at h1
    unfold bodyR at h2
    simp only [Bool.and_eq_true, decide_eq_true_eq] at h1
    refine ⟨by omega, by omega, by omega, by omega, fun hs => ?_, fun hs => ?_⟩
    · rw [hs] at h2
      simp only [if_true, Bool.and_eq_true, decide_eq_true_eq] at h2
      exact ⟨h2.1.1, ba_nil h2.1.2, h2.2⟩
    · rw [hs] at h2
      simp only [Bool.false_eq_true, if_false, Bool.and_eq_true, decide_eq_true_eq] at h2
      have := evC_k h2.1
      exact ⟨by omega, by omega, evC_len h2.1, ba_nil h2.2⟩
  · cases h
/-- What was laid is read. -/
theorem rec_laid (r : PR) (h : recC r = 0) (t : List UInt8) : recR (recB r ++ t) = endR (recB r ++ t) ⟨(recB r).length, 0⟩ ∧ recO (recB r ++ t) = r := by
  obtain ⟨h1, h2, h3, h4, hT, hF⟩ := recC_ok h
  generalize hs : recB r ++ t = s
  have hs' := hs
  unfold recB at hs
  simp only [List.append_assoc] at hs
  have eA := numR_laid (most := 1000000) (r := ⟨0, 0⟩) (s := s) rfl hs.symm (by omega) (by omega)
  have dA := drop_next (r := ⟨0, 0⟩) (s := s) hs.symm
  have eQ := numR_laid (most := 1000000) (r := ⟨0 + (numB r.ep.toNat).length, 0⟩) (s := s) rfl dA (by omega) (by omega)
  have dQ := drop_next (r := ⟨0 + (numB r.ep.toNat).length, 0⟩) (s := s) dA
  have eF := flagR_laid (r := ⟨0 + (numB r.ep.toNat).length + (numB r.sq.toNat).length, 0⟩) (s := s) rfl dQ
  have dF := drop_next (r := ⟨0 + (numB r.ep.toNat).length + (numB r.sq.toNat).length, 0⟩) (s := s) dQ
  have lF : (flagB r.sn).length = 1 := by cases r.sn <;> rfl
  rw [lF] at dF
  have xA : recA s = (⟨0 + (numB r.ep.toNat).length, 0⟩, r.ep.toNat) := eA
  have xQ : recQ s = (⟨0 + (numB r.ep.toNat).length + (numB r.sq.toNat).length, 0⟩, r.sq.toNat) := by unfold recQ; rw [xA]; exact eQ
  have xF : recF s = (⟨0 + (numB r.ep.toNat).length + (numB r.sq.toNat).length + 1, 0⟩, r.sn) := by unfold recF; rw [xQ]; exact eF
  cases hsn : r.sn
  · obtain ⟨k1, k3, hd, hst⟩ := hF hsn
    rw [hsn] at dF xF
    simp only [Bool.false_eq_true, if_false, List.append_assoc] at dF
    have hdl : r.dt.data.toList.length = r.dt.size := by simp
    have eK := numR_laid (most := 9) (r := ⟨0 + (numB r.ep.toNat).length + (numB r.sq.toNat).length + 1, 0⟩) (s := s) rfl dF (by omega) (by omega)
    have dK := drop_next (r := ⟨0 + (numB r.ep.toNat).length + (numB r.sq.toNat).length + 1, 0⟩) (s := s) dF
    have eD := textR_laid (most := 5000) (r := ⟨0 + (numB r.ep.toNat).length + (numB r.sq.toNat).length + 1 + (numB r.k.toNat).length, 0⟩) (s := s) rfl dK (by omega) (by omega)
    have xK : recK s = (⟨0 + (numB r.ep.toNat).length + (numB r.sq.toNat).length + 1 + (numB r.k.toNat).length, 0⟩, r.k.toNat) := by unfold recK; rw [xF]; exact eK
    have xD : recD s = (⟨0 + (numB r.ep.toNat).length + (numB r.sq.toNat).length + 1 + (numB r.k.toNat).length + (textB r.dt.data.toList).length, 0⟩, r.dt.data.toList) := by unfold recD; rw [xK]; exact eD
    constructor
    · unfold recR
      rw [xF, xD]
      simp only [Bool.false_eq_true, if_false]
      congr 2
      unfold recB
      rw [hsn]
      simp only [List.length_append, Bool.false_eq_true, if_false]
      have : (flagB false).length = 1 := rfl
      omega
    · unfold recO
      rw [xF, xA, xQ, xK, xD]
      simp only [Bool.false_eq_true, if_false, ba_eq]
      obtain ⟨ep, sq, sn, k, dt, st⟩ := r
      simp only at h1 h3 k1 hst hsn
      subst hst hsn
      have y1 : ((ep.toNat : Nat) : Int) = ep := Int.toNat_of_nonneg (by omega)
      have y2 : ((sq.toNat : Nat) : Int) = sq := Int.toNat_of_nonneg h3
      have y3 : ((k.toNat : Nat) : Int) = k := Int.toNat_of_nonneg (by omega)
      simp only [y1, y2, y3]
  · obtain ⟨k1, hd, hst⟩ := hT hsn
    rw [hsn] at dF xF
    simp only [if_true] at dF
    have hdl : r.st.data.toList.length = r.st.size := by simp
    have eS := textR_laid (most := 18000) (r := ⟨0 + (numB r.ep.toNat).length + (numB r.sq.toNat).length + 1, 0⟩) (s := s) rfl dF (by omega) (by omega)
    have xS : recS s = (⟨0 + (numB r.ep.toNat).length + (numB r.sq.toNat).length + 1 + (textB r.st.data.toList).length, 0⟩, r.st.data.toList) := by unfold recS; rw [xF]; exact eS
    constructor
    · unfold recR
      rw [xF, xS]
      simp only [if_true]
      congr 2
      unfold recB
      rw [hsn]
      simp only [List.length_append, if_true]
      have : (flagB true).length = 1 := rfl
      omega
    · unfold recO
      rw [xF, xA, xQ, xS]
      simp only [if_true, ba_eq]
      obtain ⟨ep, sq, sn, k, dt, st⟩ := r
      simp only at h1 h3 k1 hd hsn
      subst k1 hd hsn
      have y1 : ((ep.toNat : Nat) : Int) = ep := Int.toNat_of_nonneg (by omega)
      have y2 : ((sq.toNat : Nat) : Int) = sq := Int.toNat_of_nonneg h3
      simp only [y1, y2]
theorem recA_eq (s : List UInt8) : numR s 1000000 ⟨0, 0⟩ = ((recA s).1, (recA s).2) := rfl
theorem recQ_eq (s : List UInt8) : numR s 1000000 (recA s).1 = ((recQ s).1, (recQ s).2) := rfl
theorem recF_eq (s : List UInt8) : flagR s (recQ s).1 = ((recF s).1, (recF s).2) := rfl
theorem recS_eq (s : List UInt8) : textR s 18000 (recF s).1 = ((recS s).1, (recS s).2) := rfl
theorem recK_eq (s : List UInt8) : numR s 9 (recF s).1 = ((recK s).1, (recK s).2) := rfl
theorem recD_eq (s : List UInt8) : textR s 5000 (recK s).1 = ((recD s).1, (recD s).2) := rfl
theorem endR_ok {s : List UInt8} {r : RS} (h : (endR s r).e = 0) : r.e = 0 ∧ s.drop r.pos = [] := by
  unfold endR at h
  split at h
  · simp at h
  · rename_i hn; exact ⟨h, List.drop_eq_nil_of_le (by omega)⟩
/-- What is read was laid. -/
theorem rec_ok (s : List UInt8) (h : (recR s).e = 0) : recB (recO s) = s := by
  unfold recR at h
  unfold recO
  cases hf : (recF s).2
  · rw [hf] at h
    simp only [Bool.false_eq_true, if_false] at h ⊢
    obtain ⟨e1, e0⟩ := endR_ok h
    obtain ⟨d1, d2, -⟩ := textR_ok (recD_eq s) e1
    obtain ⟨k1, k2, -⟩ := numR_ok (recK_eq s) d1
    obtain ⟨f1, f2, -⟩ := flagR_ok (recF_eq s) k1
    obtain ⟨q1, q2, -⟩ := numR_ok (recQ_eq s) f1
    obtain ⟨-, a2, -⟩ := numR_ok (recA_eq s) q1
    have a3 : s = numB (recA s).2 ++ s.drop (recA s).1.pos := a2
    rw [q2, f2, k2, d2, e0, hf] at a3
    unfold recB
    simp only [Bool.false_eq_true, if_false, Int.toNat_natCast]
    conv => rhs; rw [a3]
    simp
  · rw [hf] at h
    simp only [if_true] at h ⊢
    obtain ⟨e1, e0⟩ := endR_ok h
    obtain ⟨d1, d2, -⟩ := textR_ok (recS_eq s) e1
    obtain ⟨f1, f2, -⟩ := flagR_ok (recF_eq s) d1
    obtain ⟨q1, q2, -⟩ := numR_ok (recQ_eq s) f1
    obtain ⟨-, a2, -⟩ := numR_ok (recA_eq s) q1
    have a3 : s = numB (recA s).2 ++ s.drop (recA s).1.pos := a2
    rw [q2, f2, d2, e0, hf] at a3
    unfold recB
    simp only [if_true, Int.toNat_natCast]
    conv => rhs; rw [a3]
    simp
theorem rtC_laid (r : PR) (h : recC r = 0) : rtC (recB r) = 0 ∧ recO (recB r) = r := by
  obtain ⟨e1, e2⟩ := rec_laid r h []
  rw [List.append_nil] at e1 e2
  refine ⟨?_, e2⟩
  unfold rtC
  rw [e1, e2, h]
  simp [endR]
theorem rtC_ok {s : List UInt8} (h : rtC s = 0) : (recR s).e = 0 ∧ recC (recO s) = 0 ∧ recB (recO s) = s := by
  unfold rtC at h
  split at h
  · contradiction
  · rename_i h1
    have h1' : (recR s).e = 0 := by omega
    exact ⟨h1', h, rec_ok s h1'⟩
theorem rtC_more {s t : List UInt8} (h : rtC s = 0) (ht : t ≠ []) : rtC (s ++ t) ≠ 0 := by
  obtain ⟨_, h3, h4⟩ := rtC_ok h
  obtain ⟨e, -⟩ := rec_laid _ h3 t
  rw [h4] at e
  have : (recR (s ++ t)).e = 6 := by
    rw [e]
    have : 0 < t.length := List.length_pos_iff.2 ht
    show (endR (s ++ t) ⟨s.length, 0⟩).e = 6
    unfold endR
    rw [if_pos ⟨rfl, by rw [List.length_append]; show s.length < _; omega⟩]
  unfold rtC
  rw [this]
  simp
theorem rtC_cut {s : List UInt8} (h : rtC s = 0) (h0 : 0 < s.length) : rtC (s.take (s.length - 1)) ≠ 0 := by
  intro h'
  have h1 := rtC_more h' (t := s.drop (s.length - 1)) (by
    intro e
    have := congrArg List.length e
    simp at this
    omega)
  rw [List.take_append_drop] at h1
  exact h1 h
theorem recB_len (r : PR) : 4 ≤ (recB r).length := by
  have h1 := numB_pos r.ep.toNat
  have h2 := numB_pos r.sq.toNat
  have h3 : (flagB r.sn).length = 1 := by cases r.sn <;> rfl
  unfold recB
  simp only [List.length_append]
  split
  · have := numB_pos r.st.data.toList.length
    unfold textB
    rw [List.length_append]
    omega
  · have := numB_pos r.k.toNat
    rw [List.length_append]
    omega
end Go.Proofs.YtlpplnmmcgdooaaDoor
