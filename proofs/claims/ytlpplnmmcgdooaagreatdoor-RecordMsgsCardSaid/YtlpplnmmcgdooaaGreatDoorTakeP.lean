/- Messages read out of bytes, in plain words: what was laid is read, and what is read was laid. Records, in plain words: whether one may be, its bytes, and what is read of bytes. -/
import Derived.Test.YtlpplnmmcgdooaaGreatDoorMsgG
import Derived.Test.YtlpplnmmcgdooaaGreatDoorRowA
namespace Go.Proofs.YtlpplnmmcgdooaaGreatDoor
open Go.RowKit Nb

/-- So many numbers, one behind the other. -/
def numsR (s : List UInt8) (most : Nat) : Nat → RS → RS × List Nat
  | 0, r => (r, [])
  | k + 1, r => ((numsR s most k (numR s most r).1).1, (numR s most r).2 :: (numsR s most k (numR s most r).1).2)
theorem numsR_len (s : List UInt8) (most : Nat) : ∀ (k : Nat) (r : RS), (numsR s most k r).2.length = k
  | 0, _ => rfl
  | k + 1, r => by rw [numsR]; simp [numsR_len s most k]
theorem numsR_snoc (s : List UInt8) (most : Nat) : ∀ (k : Nat) (r : RS), numsR s most (k + 1) r = ((numR s most (numsR s most k r).1).1, (numsR s most k r).2 ++ [(numR s most (numsR s most k r).1).2])
  | 0, r => by simp [numsR]
  | k + 1, r => by
    rw [numsR, numsR_snoc s most k (numR s most r).1]
    conv => rhs; rw [numsR]
    simp
theorem numsR_laid {s t : List UInt8} {most : Nat} (hm : most ≤ 9223372036854775807) : ∀ (l : List Nat) (r : RS), r.e = 0 → s.drop r.pos = l.flatMap numB ++ t → (∀ n ∈ l, n ≤ most) → numsR s most l.length r = (⟨r.pos + (l.flatMap numB).length, 0⟩, l)
  | [], r, hr, _, _ => by
    obtain ⟨p, e⟩ := r
    simp at hr
    subst hr
    simp [numsR]
  | n :: l, r, hr, h, hb => by
    rw [List.flatMap_cons, List.append_assoc] at h
    have h1 := numR_laid (most := most) hr h (by have := hb n (by simp); omega) (hb n (by simp))
    have h2 := drop_next h
    rw [List.length_cons, numsR, h1]
    simp only
    rw [numsR_laid hm l ⟨r.pos + (numB n).length, 0⟩ rfl h2 (fun x hx => hb x (by simp [hx]))]
    simp [Nat.add_assoc]
theorem numsR_ok {s : List UInt8} {most : Nat} : ∀ (k : Nat) (r : RS), (numsR s most k r).1.e = 0 → r.e = 0 ∧ s.drop r.pos = (numsR s most k r).2.flatMap numB ++ s.drop (numsR s most k r).1.pos ∧ (∀ n ∈ (numsR s most k r).2, n ≤ most) ∧ (r.pos ≤ s.length → (numsR s most k r).1.pos ≤ s.length)
  | 0, r, h => ⟨h, by simp [numsR], by simp [numsR], by simp [numsR]⟩
  | k + 1, r, h => by
    rw [numsR] at h ⊢
    simp only at h ⊢
    obtain ⟨a1, a2, a3, a4⟩ := numsR_ok k (numR s most r).1 h
    obtain ⟨b1, b2, b3, _, b5⟩ := numR_ok (s := s) (most := most) (r := r) (r' := (numR s most r).1) (n := (numR s most r).2) rfl a1
    refine ⟨b1, ?_, ?_, fun h => a4 (b5 h)⟩
    · rw [b2, a2]; simp
    · intro n hn
      rcases List.mem_cons.1 hn with rfl | hn
      · exact b3
      · exact a3 n hn
theorem rowR_len (s : List UInt8) (most : Nat) (r : RS) : (rowR s most r).2.length ≤ most := by
  unfold rowR
  split
  · simp
  · split
    · simp
    · rename_i h; exact (unrow_ok h).2
theorem textR_len (s : List UInt8) (most : Nat) (r : RS) : (textR s most r).2.length ≤ most := by
  unfold textR
  split
  · simp
  · split
    · simp
    · split
      · simp
      · split
        · simp
        · simp only [List.length_take]; omega
/-- What is read of bytes, before it is looked at. -/
structure Raw where
  r : RS
  n8 : List Nat
  pay : List UInt8
  n3 : List Nat
  l : List Nat
  ms : List Nat
def R8 (s : List UInt8) : RS × List Nat := numsR s 2000000 8 ⟨0, 0⟩
def RT (s : List UInt8) : RS × List UInt8 := textR s 300 (R8 s).1
def R3 (s : List UInt8) : RS × List Nat := numsR s 2000000 3 (RT s).1
def RL (s : List UInt8) : RS × List Nat := rowR s 400 (R3 s).1
def RM (s : List UInt8) : RS × List Nat := rowR s 9 (RL s).1
def rawOf (s : List UInt8) : Raw := ⟨endR s (RM s).1, (R8 s).2, (RT s).2, (R3 s).2, (RL s).2, (RM s).2⟩
/-- The pairs of a row. -/
def unfl : List Nat → List (Int × Int)
  | a :: b :: l => ((a : Int), (b : Int)) :: unfl l
  | _ => []
theorem unfl_len : ∀ l : List Nat, (unfl l).length = l.length / 2
  | [] => rfl
  | [_] => by simp [unfl]
  | a :: b :: l => by simp [unfl, unfl_len l]; omega
theorem unfl_take : ∀ (l : List Nat) (k : Nat), 2 * k + 1 < l.length → unfl (l.take (2 * (k + 1))) = unfl (l.take (2 * k)) ++ [(((l.getD (2 * k) 0 : Nat) : Int), ((l.getD (2 * k + 1) 0 : Nat) : Int))]
  | [], k, h => by simp at h
  | [_], k, h => by simp at h
  | a :: b :: l, 0, _ => by simp [unfl]
  | a :: b :: l, k + 1, h => by
    have e1 : 2 * (k + 1 + 1) = 2 * (k + 1) + 1 + 1 := by omega
    have e2 : 2 * (k + 1) = 2 * k + 1 + 1 := by omega
    rw [e1, List.take_succ_cons, List.take_succ_cons, unfl, unfl_take l k (by simp at h; omega)]
    rw [e2, List.take_succ_cons, List.take_succ_cons, unfl]
    simp
theorem unfl_odd : ∀ (l : List Nat), unfl (l.take (2 * (l.length / 2))) = unfl l
  | [] => rfl
  | [_] => by simp [unfl]
  | a :: b :: l => by
    have e1 : 2 * ((a :: b :: l).length / 2) = 2 * (l.length / 2) + 1 + 1 := by simp; omega
    rw [e1, List.take_succ_cons, List.take_succ_cons, unfl, unfl, unfl_odd l]
theorem flA_unfl : ∀ l : List Nat, l.length % 2 = 0 → (flA (unfl l)).map Int.toNat = l
  | [], _ => rfl
  | [_], h => by simp at h
  | a :: b :: l, h => by
    have ih := flA_unfl l (by simp at h; omega)
    unfold flA at ih ⊢
    simp [unfl, ih]
theorem unfl_flA : ∀ l : List (Int × Int), (∀ a ∈ l, 0 ≤ a.1 ∧ 0 ≤ a.2) → unfl ((flA l).map Int.toNat) = l
  | [], _ => rfl
  | a :: l, h => by
    have ih := unfl_flA l (fun x hx => h x (by simp [hx]))
    have h1 := h a (by simp)
    unfold flA at ih ⊢
    obtain ⟨x, y⟩ := a
    simp only [List.flatMap_cons, List.cons_append, List.nil_append, List.map_cons, unfl, ih]
    rw [Int.toNat_of_nonneg h1.1, Int.toNat_of_nonneg h1.2]
/-- The message that was read; where its rows lie is said beside. -/
def pmOf (x : Raw) (aA : Option Addr) (aC : Nat) (mA : Option Addr) (mC : Nat) : PM :=
  { k := (x.n8.getD 0 0 : Nat), fr := (x.n8.getD 1 0 : Nat), id := (x.n8.getD 2 0 : Nat), t := (x.n8.getD 3 0 : Nat), bal := (x.n8.getD 4 0 : Nat), abal := (x.n8.getD 5 0 : Nat), ph := (x.n8.getD 6 0 : Nat), q := (x.n8.getD 7 0 : Nat),
    pay := ⟨x.pay.toArray⟩, lo := (x.n3.getD 0 0 : Nat), hi := (x.n3.getD 1 0 : Nat), aA := aA, aC := aC, ats := (unfl x.l).toArray, mA := mA, mC := mC, mks := ints x.ms, dn := (x.n3.getD 2 0 : Nat) }
theorem chkM_at (x : Raw) (aA : Option Addr) (aC : Nat) (mA : Option Addr) (mC : Nat) : chkM (pmOf x aA aC mA mC) = chkM (pmOf x none 0 none 0) := rfl
/-- The code that Take tells. -/
def takeC (s : List UInt8) : Nat := if (rawOf s).r.e ≠ 0 then (rawOf s).r.e else if (rawOf s).l.length % 2 ≠ 0 then 5 else (chkM (pmOf (rawOf s) none 0 none 0)).toNat
theorem sameM_iff {a b : PM} : sameM a b = true ↔ (a.k = b.k ∧ a.fr = b.fr ∧ a.id = b.id ∧ a.t = b.t ∧ a.bal = b.bal ∧ a.abal = b.abal ∧ a.ph = b.ph ∧ a.q = b.q ∧ a.pay = b.pay ∧ a.lo = b.lo ∧ a.hi = b.hi ∧ a.dn = b.dn ∧ a.ats = b.ats ∧ a.mks = b.mks) := by
  unfold sameM; rw [decide_eq_true_eq]
theorem chkM_same {a b : PM} (h : sameM a b = true) : chkM a = chkM b := by
  obtain ⟨h1, h2, h3, h4, h5, h6, h7, h8, h9, h10, h11, h12, h13, h14⟩ := sameM_iff.1 h
  obtain ⟨k, fr, id, t, bal, abal, ph, q, pay, lo, hi, aA, aC, ats, mA, mC, mks, dn⟩ := a
  simp only at h1 h2 h3 h4 h5 h6 h7 h8 h9 h10 h11 h12 h13 h14
  subst h1 h2 h3 h4 h5 h6 h7 h8 h9 h10 h11 h12 h13 h14
  rfl
theorem msgB_same {a b : PM} (h : sameM a b = true) : msgB a = msgB b := by
  obtain ⟨h1, h2, h3, h4, h5, h6, h7, h8, h9, h10, h11, h12, h13, h14⟩ := sameM_iff.1 h
  unfold msgB m8 m3
  rw [h1, h2, h3, h4, h5, h6, h7, h8, h9, h10, h11, h12, h13, h14]
theorem nats_le {d : Array Int} {most : Nat} (h : ∀ x ∈ d.toList, 0 ≤ x ∧ x ≤ most) : ∀ n ∈ nats d, n ≤ most := by
  intro n hn
  unfold nats at hn
  obtain ⟨x, hx, rfl⟩ := List.mem_map.1 hn
  have := h x hx
  omega
/-- What was laid is read. -/
theorem raw_laid (m : PM) (h : OkM m) (t : List UInt8) : rawOf (msgB m ++ t) = ⟨endR (msgB m ++ t) ⟨(msgB m).length, 0⟩, nats (m8 m), m.pay.data.toList, nats (m3 m), nats (flA m.ats.toList).toArray, nats m.mks⟩ := by
  have hm : (2000000 : Nat) ≤ 9223372036854775807 := by omega
  have b8 : ∀ n ∈ nats (m8 m), n ≤ 2000000 := nats_le (by
    intro x hx
    obtain ⟨h1, h2, h3, h4, h5, h6, h7, h8, -⟩ := h
    simp [m8] at hx
    omega)
  have b3 : ∀ n ∈ nats (m3 m), n ≤ 2000000 := nats_le (by
    intro x hx
    have h1 := h.lo
    have h2 := h.hi
    have h3 := h.dn
    simp [m3] at hx
    omega)
  have hpl : m.pay.data.toList.length = m.pay.size := by simp
  have hla : (nats (flA m.ats.toList).toArray).length ≤ 400 := by
    have := h.ats
    rw [nats_len, List.size_toArray, flA_len]
    simp
    omega
  have hlm : (nats m.mks).length ≤ 9 := by rw [nats_len]; exact h.mks
  generalize hs : msgB m ++ t = s
  have hs' := hs
  unfold msgB at hs
  simp only [List.append_assoc] at hs
  have l8 : (nats (m8 m)).length = 8 := by rw [nats_len]; rfl
  have l3 : (nats (m3 m)).length = 3 := by rw [nats_len]; rfl
  have e8 := numsR_laid (s := s) hm (nats (m8 m)) ⟨0, 0⟩ rfl hs.symm b8
  rw [l8] at e8
  have d8 := drop_next (r := ⟨0, 0⟩) (s := s) hs.symm
  have eT := textR_laid (most := 300) (r := ⟨0 + ((nats (m8 m)).flatMap numB).length, 0⟩) rfl d8 (by have := h.pay; omega) (by have := h.pay; omega)
  have dT := drop_next (r := ⟨0 + ((nats (m8 m)).flatMap numB).length, 0⟩) d8
  have e3 := numsR_laid (s := s) hm (nats (m3 m)) ⟨0 + ((nats (m8 m)).flatMap numB).length + (textB m.pay.data.toList).length, 0⟩ rfl dT b3
  rw [l3] at e3
  have d3 := drop_next (r := ⟨0 + ((nats (m8 m)).flatMap numB).length + (textB m.pay.data.toList).length, 0⟩) dT
  have eL := rowR_laid (most := 400) (r := ⟨0 + ((nats (m8 m)).flatMap numB).length + (textB m.pay.data.toList).length + ((nats (m3 m)).flatMap numB).length, 0⟩) rfl d3 hla (by omega) h.la.nats
  have dL := drop_next (r := ⟨0 + ((nats (m8 m)).flatMap numB).length + (textB m.pay.data.toList).length + ((nats (m3 m)).flatMap numB).length, 0⟩) d3
  have eM := rowR_laid (most := 9) (r := ⟨0 + ((nats (m8 m)).flatMap numB).length + (textB m.pay.data.toList).length + ((nats (m3 m)).flatMap numB).length + (rowB (nats (flA m.ats.toList).toArray)).length, 0⟩) rfl dL hlm (by omega) h.lm.nats
  have hlen : (msgB m).length = 0 + ((nats (m8 m)).flatMap numB).length + (textB m.pay.data.toList).length + ((nats (m3 m)).flatMap numB).length + (rowB (nats (flA m.ats.toList).toArray)).length + (rowB (nats m.mks)).length := by
    unfold msgB; simp only [List.length_append]; omega
  rw [hlen]
  have y8 : R8 s = numsR s 2000000 8 ⟨0, 0⟩ := rfl
  have x8 := y8.trans e8
  have yT : RT s = textR s 300 (R8 s).1 := rfl
  rw [x8] at yT
  have xT := yT.trans eT
  have y3 : R3 s = numsR s 2000000 3 (RT s).1 := rfl
  rw [xT] at y3
  have x3 := y3.trans e3
  have yL : RL s = rowR s 400 (R3 s).1 := rfl
  rw [x3] at yL
  have xL := yL.trans eL
  have yM : RM s = rowR s 9 (RL s).1 := rfl
  rw [xL] at yM
  have xM := yM.trans eM
  unfold rawOf
  rw [x8, xT, x3, xL, xM]
theorem RM_eq (s : List UInt8) : rowR s 9 (RL s).1 = ((RM s).1, (RM s).2) := by show RM s = _; generalize RM s = x; rfl
theorem RL_eq (s : List UInt8) : rowR s 400 (R3 s).1 = ((RL s).1, (RL s).2) := by show RL s = _; generalize RL s = x; rfl
theorem RT_eq (s : List UInt8) : textR s 300 (R8 s).1 = ((RT s).1, (RT s).2) := by show RT s = _; generalize RT s = x; rfl
theorem R3_eq (s : List UInt8) : numsR s 2000000 3 (RT s).1 = R3 s := rfl
theorem R8_eq (s : List UInt8) : numsR s 2000000 8 ⟨0, 0⟩ = R8 s := rfl
theorem raw_r (s : List UInt8) : (rawOf s).r = endR s (RM s).1 := by simp only [rawOf]
/-- What is read was laid. -/
theorem raw_ok (s : List UInt8) (h : (rawOf s).r.e = 0) : s = (rawOf s).n8.flatMap numB ++ textB (rawOf s).pay ++ (rawOf s).n3.flatMap numB ++ rowB (rawOf s).l ++ rowB (rawOf s).ms ∧ (rawOf s).n8.length = 8 ∧ (rawOf s).n3.length = 3 := by
  rw [raw_r] at h
  have hM : (RM s).1.e = 0 ∧ (RM s).1.pos ≥ s.length := by
    generalize (RM s).1 = x at h
    unfold endR at h
    split at h
    · simp at h
    · rename_i hn; exact ⟨h, by omega⟩
  obtain ⟨m1, m2, _, _, _⟩ := rowR_ok (RM_eq s) hM.1
  obtain ⟨l1, l2, _, _, _⟩ := rowR_ok (RL_eq s) m1
  have k3 := numsR_ok (s := s) (most := 2000000) 3 (RT s).1
  rw [R3_eq] at k3
  obtain ⟨c1, c2, _, _⟩ := k3 l1
  obtain ⟨t1, t2, _, _⟩ := textR_ok (RT_eq s) c1
  have k8 := numsR_ok (s := s) (most := 2000000) 8 ⟨0, 0⟩
  rw [R8_eq] at k8
  obtain ⟨a1, a2, _, _⟩ := k8 t1
  have e0 : s.drop (RM s).1.pos = [] := List.drop_eq_nil_of_le hM.2
  have n8 := numsR_len s 2000000 8 ⟨0, 0⟩
  rw [R8_eq] at n8
  have n3 := numsR_len s 2000000 3 (RT s).1
  rw [R3_eq] at n3
  refine ⟨?_, by simpa only [rawOf] using n8, by simpa only [rawOf] using n3⟩
  have a3 : s = (R8 s).2.flatMap numB ++ s.drop (R8 s).1.pos := a2
  simp only [rawOf]
  rw [t2, c2, l2, m2, e0] at a3
  simp only [List.append_nil, ← List.append_assoc] at a3
  exact a3
theorem nats_ints (l : List Nat) : nats (ints l) = l := by
  unfold nats ints
  simp [Function.comp_def]
theorem ints_nats {d : Array Int} (h : ∀ j, j < d.size → 0 ≤ d[j]!) : ints (nats d) = d := by
  unfold nats ints
  refine arr_ext (by simp) ?_
  intro j hj
  have hj' : j < d.size := by simpa using hj
  have h0 := h j hj'
  rw [getElem!_pos d j hj'] at h0 ⊢
  rw [getElem!_pos _ j hj]
  simp
  omega
theorem list8 {l : List Nat} (h : l.length = 8) : l = [l.getD 0 0, l.getD 1 0, l.getD 2 0, l.getD 3 0, l.getD 4 0, l.getD 5 0, l.getD 6 0, l.getD 7 0] := by
  match l, h with
  | [a, b, c, d, e, f, g, i], _ => rfl
theorem list3 {l : List Nat} (h : l.length = 3) : l = [l.getD 0 0, l.getD 1 0, l.getD 2 0] := by
  match l, h with
  | [a, b, c], _ => rfl
/-- What Take takes is just what Put makes of it. -/
theorem msgB_raw (s : List UInt8) (h : (rawOf s).r.e = 0) (h2 : (rawOf s).l.length % 2 = 0) (aA : Option Addr) (aC : Nat) (mA : Option Addr) (mC : Nat) : msgB (pmOf (rawOf s) aA aC mA mC) = s := by
  obtain ⟨h1, l8, l3⟩ := raw_ok s h
  generalize rawOf s = x at h1 h2 l8 l3
  unfold msgB
  have e8 : nats (m8 (pmOf x aA aC mA mC)) = x.n8 := by
    conv => rhs; rw [list8 l8]
    simp [nats, m8, pmOf]
  have e3 : nats (m3 (pmOf x aA aC mA mC)) = x.n3 := by
    conv => rhs; rw [list3 l3]
    simp [nats, m3, pmOf]
  have eL : nats (flA (pmOf x aA aC mA mC).ats.toList).toArray = x.l := by
    show (flA (unfl x.l).toArray.toList).toArray.toList.map Int.toNat = x.l
    simp [flA_unfl x.l h2]
  have eM : nats (pmOf x aA aC mA mC).mks = x.ms := nats_ints _
  have eP : (pmOf x aA aC mA mC).pay.data.toList = x.pay := by simp [pmOf]
  rw [e8, e3, eL, eM, eP]
  exact h1.symm
theorem raw_same (m : PM) (h : OkM m) (t : List UInt8) (aA : Option Addr) (aC : Nat) (mA : Option Addr) (mC : Nat) : sameM m (pmOf (rawOf (msgB m ++ t)) aA aC mA mC) = true := by
  rw [raw_laid m h t]
  have ha : unfl (nats (flA m.ats.toList).toArray) = m.ats.toList := by
    unfold nats
    rw [List.toList_toArray]
    exact unfl_flA _ (fun a ha => ⟨(h.att a ha).1.1, (h.att a ha).2.1⟩)
  have hm : ints (nats m.mks) = m.mks := ints_nats (fun j hj => (h.mkv j hj).1)
  obtain ⟨h1, h2, h3, h4, h5, h6, h7, h8, -, h9, h10, h11, -⟩ := h
  rw [sameM_iff]
  unfold pmOf
  simp only [ha, hm]
  simp [nats, m8, m3]
  omega
theorem takeC_laid (m : PM) (h : chkM m = 0) : takeC (msgB m) = 0 := by
  have hok := okM_of h
  have e := raw_laid m hok []
  have hs := chkM_same (raw_same m hok [] none 0 none 0)
  rw [List.append_nil] at e hs
  have hr : (rawOf (msgB m)).r.e = 0 := by rw [e]; simp [endR]
  have hl : (rawOf (msgB m)).l.length % 2 = 0 := by rw [e]; simp [nats_len, flA_len]
  unfold takeC
  rw [hr, hl, ← hs, h]
  simp
theorem takeC_ok {s : List UInt8} (h : takeC s = 0) (aA : Option Addr) (aC : Nat) (mA : Option Addr) (mC : Nat) : (rawOf s).r.e = 0 ∧ (rawOf s).l.length % 2 = 0 ∧ chkM (pmOf (rawOf s) aA aC mA mC) = 0 ∧ msgB (pmOf (rawOf s) aA aC mA mC) = s := by
  unfold takeC at h
  split at h
  · contradiction
  · rename_i h1
    split at h
    · omega
    · rename_i h2
      have h1' : (rawOf s).r.e = 0 := by omega
      have h2' : (rawOf s).l.length % 2 = 0 := by omega
      refine ⟨h1', h2', ?_, msgB_raw s h1' h2' _ _ _ _⟩
      rw [chkM_at]
      rcases chk_3 (pmOf (rawOf s) none 0 none 0) with h' | h' | h'
      · exact h'
      · rw [h'] at h; simp at h
      · rw [h'] at h; simp at h
theorem takeC_more {s t : List UInt8} (h : takeC s = 0) (ht : t ≠ []) : takeC (s ++ t) ≠ 0 := by
  obtain ⟨_, _, h3, h4⟩ := takeC_ok h none 0 none 0
  have e := raw_laid _ (okM_of h3) t
  rw [h4] at e
  have : (rawOf (s ++ t)).r.e = 6 := by
    rw [e]
    have : 0 < t.length := List.length_pos_iff.2 ht
    show (endR (s ++ t) ⟨s.length, 0⟩).e = 6
    unfold endR
    rw [if_pos ⟨rfl, by rw [List.length_append]; show s.length < _; omega⟩]
  unfold takeC
  rw [this]
  simp
theorem takeC_cut {s : List UInt8} (h : takeC s = 0) (h0 : 0 < s.length) : takeC (s.take (s.length - 1)) ≠ 0 := by
  intro h'
  have h1 := takeC_more h' (t := s.drop (s.length - 1)) (by
    intro e
    have := congrArg List.length e
    simp at this
    omega)
  rw [List.take_append_drop] at h1
  exact h1 h
theorem msgB_len (m : PM) : 10 ≤ (msgB m).length := by
  have h8 : ∀ l : List Nat, l.length ≤ (l.flatMap numB).length := by
    intro l
    induction l with
    | nil => simp
    | cons n l ih => have := numB_pos n; rw [List.flatMap_cons, List.length_append, List.length_cons]; omega
  have a8 := h8 (nats (m8 m))
  have a3 := h8 (nats (m3 m))
  have l8 : (nats (m8 m)).length = 8 := by rw [nats_len]; rfl
  have l3 : (nats (m3 m)).length = 3 := by rw [nats_len]; rfl
  unfold msgB
  simp only [List.length_append]
  omega
end Go.Proofs.YtlpplnmmcgdooaaGreatDoor
namespace Go.Proofs.YtlpplnmmcgdooaaGreatDoor
open Go.RowKit Nb

/-- A record. -/
structure PR where
  ep : Int
  sq : Int
  sn : Bool
  k : Int
  dt : ByteArray
  st : ByteArray
/-- A record with nothing in it. -/
def zR : PR := ⟨0, 0, false, 0, ⟨#[]⟩, ⟨#[]⟩⟩
/-- An event's code. -/
def evC (k : Int) (d : ByteArray) : Nat := if k = 1 then (if d.size ≤ 300 then 0 else 2) else if k = 2 then (if takeC d.data.toList = 0 then 0 else 2) else if k = 3 then (if d.size = 0 then 0 else 2) else 30
/-- A record's numbers. -/
def headR (r : PR) : Bool := decide (1 ≤ r.ep) && decide (r.ep ≤ 1000000) && decide (0 ≤ r.sq) && decide (r.sq ≤ 1000000) && (r.sn == (r.sq == 0))
/-- What a record tells. -/
def bodyR (r : PR) : Bool := if r.sn then decide (r.k = 0) && decide (r.dt.size = 0) && decide (r.st.size ≤ 18000) else decide (evC r.k r.dt = 0) && decide (r.st.size = 0)
def recC (r : PR) : Nat := if headR r && bodyR r then 0 else 2
theorem recC_2 (r : PR) : recC r = 0 ∨ recC r = 2 := by unfold recC; split <;> simp
theorem evC_3 (k : Int) (d : ByteArray) : evC k d = 0 ∨ evC k d = 2 ∨ evC k d = 30 := by unfold evC; (repeat' split) <;> simp
/-- A record's bytes. -/
def recB (r : PR) : List UInt8 := numB r.ep.toNat ++ numB r.sq.toNat ++ flagB r.sn ++ (if r.sn then textB r.st.data.toList else numB r.k.toNat ++ textB r.dt.data.toList)
/-- What is read of bytes. -/
def recA (s : List UInt8) : RS × Nat := numR s 1000000 ⟨0, 0⟩
def recQ (s : List UInt8) : RS × Nat := numR s 1000000 (recA s).1
def recF (s : List UInt8) : RS × Bool := flagR s (recQ s).1
def recS (s : List UInt8) : RS × List UInt8 := textR s 18000 (recF s).1
def recK (s : List UInt8) : RS × Nat := numR s 9 (recF s).1
def recD (s : List UInt8) : RS × List UInt8 := textR s 5000 (recK s).1
def recR (s : List UInt8) : RS := if (recF s).2 then endR s (recS s).1 else endR s (recD s).1
def recO (s : List UInt8) : PR := if (recF s).2 then ⟨(recA s).2, (recQ s).2, true, 0, ⟨#[]⟩, ⟨(recS s).2.toArray⟩⟩ else ⟨(recA s).2, (recQ s).2, false, (recK s).2, ⟨(recD s).2.toArray⟩, ⟨#[]⟩⟩
/-- The code that Take tells. -/
def rtC (s : List UInt8) : Nat := if (recR s).e ≠ 0 then (recR s).e else recC (recO s)
theorem ba_eq (b : ByteArray) : (⟨b.data.toList.toArray⟩ : ByteArray) = b := by cases b; simp
theorem ba_nil {b : ByteArray} (h : b.size = 0) : b = ⟨#[]⟩ := by
  cases b with
  | mk d => have : d.size = 0 := h; rw [Array.eq_empty_of_size_eq_zero this]
theorem evC_k {k : Int} {d : ByteArray} (h : evC k d = 0) : 1 ≤ k ∧ k ≤ 3 := by
  unfold evC at h
  (repeat' split at h) <;> first | omega | cases h
theorem numB_sum8 (l : List Nat) : (∀ n ∈ l, n ≤ 2000000) → (l.flatMap numB).length ≤ 9 * l.length := by
  intro h
  induction l with
  | nil => simp
  | cons n l ih =>
    have h1 := numB_len n (by have := h n (by simp); omega)
    have h2 := ih (fun x hx => h x (by simp [hx]))
    rw [List.flatMap_cons, List.length_append, List.length_cons]
    omega
/-- A message's bytes are few. -/
theorem takeC_len {s : List UInt8} (h : takeC s = 0) : s.length ≤ 4300 := by
  obtain ⟨_, _, h3, h4⟩ := takeC_ok h none 0 none 0
  have hok := okM_of h3
  generalize pmOf (rawOf s) none 0 none 0 = m at h3 h4 hok
  rw [← h4]
  have hla : (nats (flA m.ats.toList).toArray).length ≤ 400 := by
    have := hok.ats
    rw [nats_len, List.size_toArray, flA_len]
    simp
    omega
  have hlm : (nats m.mks).length ≤ 9 := by rw [nats_len]; exact hok.mks
  have f1 := flat_len (nats (flA m.ats.toList).toArray) hok.la.nats
  have f2 := flat_len (nats m.mks) hok.lm.nats
  have l8 : (nats (m8 m)).length = 8 := by rw [nats_len]; rfl
  have l3 : (nats (m3 m)).length = 3 := by rw [nats_len]; rfl
  have b8 : ∀ n ∈ nats (m8 m), n ≤ 2000000 := nats_le (by
    intro x hx
    obtain ⟨h1, h2, h3, h4, h5, h6, h7, h8, -⟩ := hok
    simp [m8] at hx
    omega)
  have b3 : ∀ n ∈ nats (m3 m), n ≤ 2000000 := nats_le (by
    intro x hx
    have h1 := hok.lo
    have h2 := hok.hi
    have h3 := hok.dn
    simp [m3] at hx
    omega)
  have g8 := numB_sum8 _ b8
  have g3 := numB_sum8 _ b3
  have hp := hok.pay
  have q1 := numB_len m.pay.data.toList.length (by simp; omega)
  have q2 := numB_len (nats (flA m.ats.toList).toArray).length (by omega)
  have q3 := numB_len (nats m.mks).length (by omega)
  have hpl : m.pay.data.toList.length = m.pay.size := by simp
  unfold msgB textB rowB
  simp only [List.length_append]
  omega
theorem evC_len {k : Int} {d : ByteArray} (h : evC k d = 0) : d.size ≤ 5000 := by
  unfold evC at h
  split at h
  · split at h
    · omega
    · cases h
  · split at h
    · split at h
      · rename_i h2
        have := takeC_len h2
        have e : d.data.toList.length = d.size := by simp
        omega
      · cases h
    · split at h
      · split at h
        · omega
        · cases h
      · cases h
theorem recC_ok {r : PR} (h : recC r = 0) : 1 ≤ r.ep ∧ r.ep ≤ 1000000 ∧ 0 ≤ r.sq ∧ r.sq ≤ 1000000 ∧ (r.sn = true → r.k = 0 ∧ r.dt = ⟨#[]⟩ ∧ r.st.size ≤ 18000) ∧ (r.sn = false → 1 ≤ r.k ∧ r.k ≤ 3 ∧ r.dt.size ≤ 5000 ∧ r.st = ⟨#[]⟩) := by
  unfold recC at h
  split at h
  · rename_i hh
    obtain ⟨h1, h2⟩ := (Bool.and_eq_true _ _).mp hh
    unfold headR at h1
    unfold bodyR at h2
    simp only [Bool.and_eq_true, decide_eq_true_eq] at h1
    refine ⟨by omega, by omega, by omega, by omega, fun hs => ?_, fun hs => ?_⟩
    · rw [hs] at h2
      simp only [if_true, Bool.and_eq_true, decide_eq_true_eq] at h2
      exact ⟨h2.1.1, ba_nil h2.1.2, h2.2⟩
    · rw [hs] at h2
      simp only [Bool.false_eq_true, if_false, Bool.and_eq_true, decide_eq_true_eq] at h2
      have := evC_k h2.1
      exact ⟨by omega, by omega, evC_len h2.1, ba_nil h2.2⟩
  · cases h
/-- What was laid is read. -/
theorem rec_laid (r : PR) (h : recC r = 0) (t : List UInt8) : recR (recB r ++ t) = endR (recB r ++ t) ⟨(recB r).length, 0⟩ ∧ recO (recB r ++ t) = r := by
  obtain ⟨h1, h2, h3, h4, hT, hF⟩ := recC_ok h
  generalize hs : recB r ++ t = s
  have hs' := hs
  unfold recB at hs
  simp only [List.append_assoc] at hs
  have eA := numR_laid (most := 1000000) (r := ⟨0, 0⟩) (s := s) rfl hs.symm (by omega) (by omega)
  have dA := drop_next (r := ⟨0, 0⟩) (s := s) hs.symm
  have eQ := numR_laid (most := 1000000) (r := ⟨0 + (numB r.ep.toNat).length, 0⟩) (s := s) rfl dA (by omega) (by omega)
  have dQ := drop_next (r := ⟨0 + (numB r.ep.toNat).length, 0⟩) (s := s) dA
  have eF := flagR_laid (r := ⟨0 + (numB r.ep.toNat).length + (numB r.sq.toNat).length, 0⟩) (s := s) rfl dQ
  have dF := drop_next (r := ⟨0 + (numB r.ep.toNat).length + (numB r.sq.toNat).length, 0⟩) (s := s) dQ
  have lF : (flagB r.sn).length = 1 := by cases r.sn <;> rfl
  rw [lF] at dF
  have xA : recA s = (⟨0 + (numB r.ep.toNat).length, 0⟩, r.ep.toNat) := eA
  have xQ : recQ s = (⟨0 + (numB r.ep.toNat).length + (numB r.sq.toNat).length, 0⟩, r.sq.toNat) := by unfold recQ; rw [xA]; exact eQ
  have xF : recF s = (⟨0 + (numB r.ep.toNat).length + (numB r.sq.toNat).length + 1, 0⟩, r.sn) := by unfold recF; rw [xQ]; exact eF
  cases hsn : r.sn
  · obtain ⟨k1, k3, hd, hst⟩ := hF hsn
    rw [hsn] at dF xF
    simp only [Bool.false_eq_true, if_false, List.append_assoc] at dF
    have hdl : r.dt.data.toList.length = r.dt.size := by simp
    have eK := numR_laid (most := 9) (r := ⟨0 + (numB r.ep.toNat).length + (numB r.sq.toNat).length + 1, 0⟩) (s := s) rfl dF (by omega) (by omega)
    have dK := drop_next (r := ⟨0 + (numB r.ep.toNat).length + (numB r.sq.toNat).length + 1, 0⟩) (s := s) dF
    have eD := textR_laid (most := 5000) (r := ⟨0 + (numB r.ep.toNat).length + (numB r.sq.toNat).length + 1 + (numB r.k.toNat).length, 0⟩) (s := s) rfl dK (by omega) (by omega)
    have xK : recK s = (⟨0 + (numB r.ep.toNat).length + (numB r.sq.toNat).length + 1 + (numB r.k.toNat).length, 0⟩, r.k.toNat) := by unfold recK; rw [xF]; exact eK
    have xD : recD s = (⟨0 + (numB r.ep.toNat).length + (numB r.sq.toNat).length + 1 + (numB r.k.toNat).length + (textB r.dt.data.toList).length, 0⟩, r.dt.data.toList) := by unfold recD; rw [xK]; exact eD
    constructor
    · unfold recR
      rw [xF, xD]
      simp only [Bool.false_eq_true, if_false]
      congr 2
      unfold recB
      rw [hsn]
      simp only [List.length_append, Bool.false_eq_true, if_false]
      have : (flagB false).length = 1 := rfl
      omega
    · unfold recO
      rw [xF, xA, xQ, xK, xD]
      simp only [Bool.false_eq_true, if_false, ba_eq]
      obtain ⟨ep, sq, sn, k, dt, st⟩ := r
      simp only at h1 h3 k1 hst hsn
      subst hst hsn
      have y1 : ((ep.toNat : Nat) : Int) = ep := Int.toNat_of_nonneg (by omega)
      have y2 : ((sq.toNat : Nat) : Int) = sq := Int.toNat_of_nonneg h3
      have y3 : ((k.toNat : Nat) : Int) = k := Int.toNat_of_nonneg (by omega)
      simp only [y1, y2, y3]
  · obtain ⟨k1, hd, hst⟩ := hT hsn
    rw [hsn] at dF xF
    simp only [if_true] at dF
    have hdl : r.st.data.toList.length = r.st.size := by simp
    have eS := textR_laid (most := 18000) (r := ⟨0 + (numB r.ep.toNat).length + (numB r.sq.toNat).length + 1, 0⟩) (s := s) rfl dF (by omega) (by omega)
    have xS : recS s = (⟨0 + (numB r.ep.toNat).length + (numB r.sq.toNat).length + 1 + (textB r.st.data.toList).length, 0⟩, r.st.data.toList) := by unfold recS; rw [xF]; exact eS
    constructor
    · unfold recR
      rw [xF, xS]
      simp only [if_true]
      congr 2
      unfold recB
      rw [hsn]
      simp only [List.length_append, if_true]
      have : (flagB true).length = 1 := rfl
      omega
    · unfold recO
      rw [xF, xA, xQ, xS]
      simp only [if_true, ba_eq]
      obtain ⟨ep, sq, sn, k, dt, st⟩ := r
      simp only at h1 h3 k1 hd hsn
      subst k1 hd hsn
      have y1 : ((ep.toNat : Nat) : Int) = ep := Int.toNat_of_nonneg (by omega)
      have y2 : ((sq.toNat : Nat) : Int) = sq := Int.toNat_of_nonneg h3
      simp only [y1, y2]
theorem recA_eq (s : List UInt8) : numR s 1000000 ⟨0, 0⟩ = ((recA s).1, (recA s).2) := rfl
theorem recQ_eq (s : List UInt8) : numR s 1000000 (recA s).1 = ((recQ s).1, (recQ s).2) := rfl
theorem recF_eq (s : List UInt8) : flagR s (recQ s).1 = ((recF s).1, (recF s).2) := rfl
theorem recS_eq (s : List UInt8) : textR s 18000 (recF s).1 = ((recS s).1, (recS s).2) := rfl
theorem recK_eq (s : List UInt8) : numR s 9 (recF s).1 = ((recK s).1, (recK s).2) := rfl
theorem recD_eq (s : List UInt8) : textR s 5000 (recK s).1 = ((recD s).1, (recD s).2) := rfl
theorem endR_ok {s : List UInt8} {r : RS} (h : (endR s r).e = 0) : r.e = 0 ∧ s.drop r.pos = [] := by
  unfold endR at h
  split at h
  · simp at h
  · rename_i hn; exact ⟨h, List.drop_eq_nil_of_le (by omega)⟩
/-- What is read was laid. -/
theorem rec_ok (s : List UInt8) (h : (recR s).e = 0) : recB (recO s) = s := by
  unfold recR at h
  unfold recO
  cases hf : (recF s).2
  · rw [hf] at h
    simp only [Bool.false_eq_true, if_false] at h ⊢
    obtain ⟨e1, e0⟩ := endR_ok h
    obtain ⟨d1, d2, -⟩ := textR_ok (recD_eq s) e1
    obtain ⟨k1, k2, -⟩ := numR_ok (recK_eq s) d1
    obtain ⟨f1, f2, -⟩ := flagR_ok (recF_eq s) k1
    obtain ⟨q1, q2, -⟩ := numR_ok (recQ_eq s) f1
    obtain ⟨-, a2, -⟩ := numR_ok (recA_eq s) q1
    have a3 : s = numB (recA s).2 ++ s.drop (recA s).1.pos := a2
    rw [q2, f2, k2, d2, e0, hf] at a3
    unfold recB
    simp only [Bool.false_eq_true, if_false, Int.toNat_natCast]
    conv => rhs; rw [a3]
    simp
  · rw [hf] at h
    simp only [if_true] at h ⊢
    obtain ⟨e1, e0⟩ := endR_ok h
    obtain ⟨d1, d2, -⟩ := textR_ok (recS_eq s) e1
    obtain ⟨f1, f2, -⟩ := flagR_ok (recF_eq s) d1
    obtain ⟨q1, q2, -⟩ := numR_ok (recQ_eq s) f1
    obtain ⟨-, a2, -⟩ := numR_ok (recA_eq s) q1
    have a3 : s = numB (recA s).2 ++ s.drop (recA s).1.pos := a2
    rw [q2, f2, d2, e0, hf] at a3
    unfold recB
    simp only [if_true, Int.toNat_natCast]
    conv => rhs; rw [a3]
    simp
theorem rtC_laid (r : PR) (h : recC r = 0) : rtC (recB r) = 0 ∧ recO (recB r) = r := by
  obtain ⟨e1, e2⟩ := rec_laid r h []
  rw [List.append_nil] at e1 e2
  refine ⟨?_, e2⟩
  unfold rtC
  rw [e1, e2, h]
  simp [endR]
theorem rtC_ok {s : List UInt8} (h : rtC s = 0) : (recR s).e = 0 ∧ recC (recO s) = 0 ∧ recB (recO s) = s := by
  unfold rtC at h
  split at h
  · contradiction
  · rename_i h1
    have h1' : (recR s).e = 0 := by omega
    exact ⟨h1', h, rec_ok s h1'⟩
theorem rtC_more {s t : List UInt8} (h : rtC s = 0) (ht : t ≠ []) : rtC (s ++ t) ≠ 0 := by
  obtain ⟨_, h3, h4⟩ := rtC_ok h
  obtain ⟨e, -⟩ := rec_laid _ h3 t
  rw [h4] at e
  have : (recR (s ++ t)).e = 6 := by
    rw [e]
    have : 0 < t.length := List.length_pos_iff.2 ht
    show (endR (s ++ t) ⟨s.length, 0⟩).e = 6
    unfold endR
    rw [if_pos ⟨rfl, by rw [List.length_append]; show s.length < _; omega⟩]
  unfold rtC
  rw [this]
  simp
theorem rtC_cut {s : List UInt8} (h : rtC s = 0) (h0 : 0 < s.length) : rtC (s.take (s.length - 1)) ≠ 0 := by
  intro h'
  have h1 := rtC_more h' (t := s.drop (s.length - 1)) (by
    intro e
    have := congrArg List.length e
    simp at this
    omega)
  rw [List.take_append_drop] at h1
  exact h1 h
theorem recB_len (r : PR) : 4 ≤ (recB r).length := by
  have h1 := numB_pos r.ep.toNat
  have h2 := numB_pos r.sq.toNat
  have h3 : (flagB r.sn).length = 1 := by cases r.sn <;> rfl
  unfold recB
  simp only [List.length_append]
  split
  · have := numB_pos r.st.data.toList.length
    unfold textB
    rw [List.length_append]
    omega
  · have := numB_pos r.k.toNat
    rw [List.length_append]
    omega
end Go.Proofs.YtlpplnmmcgdooaaGreatDoor
