/- Messages read out of bytes, in plain words: what was laid is read, and what is read was laid. -/
import Derived.Test.YtlpplnmmcgdooaaGreatDoorMsgG
import Derived.Test.YtlpplnmmcgdooaaGreatDoorRowB
namespace Go.Proofs.YtlpplnmmcgdooaaGreatDoor
open Go.RowKit Nb

/-- So many numbers, one behind the other. -/
def numsR (s : List UInt8) (most : Nat) : Nat → RS → RS × List Nat
  | 0, r => (r, [])
  | k + 1, r => ((numsR s most k (numR s most r).1).1, (numR s most r).2 :: (numsR s most k (numR s most r).1).2)
theorem numsR_len (s : List UInt8) (most : Nat) : ∀ (k : Nat) (r : RS), (numsR s most k r).2.length = k
  | 0, _ => rfl
  | k + 1, r => by rw [numsR]; simp [numsR_len s most k]
theorem numsR_snoc (s : List UInt8) (most : Nat) : ∀ (k : Nat) (r : RS), numsR s most (k + 1) r = ((numR s most (numsR s most k r).1).1, (numsR s most k r).2 ++ [(numR s most (numsR s most k r).1).2])
  | 0, r => by simp [numsR]
  | k + 1, r => by
    rw [numsR, numsR_snoc s most k (numR s most r).1]
    conv => rhs; rw [numsR]
    simp
theorem numsR_laid {s t : List UInt8} {most : Nat} (hm : most ≤ 9223372036854775807) : ∀ (l : List Nat) (r : RS), r.e = 0 → s.drop r.pos = l.flatMap numB ++ t → (∀ n ∈ l, n ≤ most) → numsR s most l.length r = (⟨r.pos + (l.flatMap numB).length, 0⟩, l)
  | [], r, hr, _, _ => by
    obtain ⟨p, e⟩ := r
    simp at hr
    subst hr
    simp [numsR]
  | n :: l, r, hr, h, hb => by
    rw [List.flatMap_cons, List.append_assoc] at h
    have h1 := numR_laid (most := most) hr h (by have := hb n (by simp); omega) (hb n (by simp))
    have h2 := drop_next h
    rw [List.length_cons, numsR, h1]
    simp only
    rw [numsR_laid hm l ⟨r.pos + (numB n).length, 0⟩ rfl h2 (fun x hx => hb x (by simp [hx]))]
    simp [Nat.add_assoc]
theorem numsR_ok {s : List UInt8} {most : Nat} : ∀ (k : Nat) (r : RS), (numsR s most k r).1.e = 0 → r.e = 0 ∧ s.drop r.pos = (numsR s most k r).2.flatMap numB ++ s.drop (numsR s most k r).1.pos ∧ (∀ n ∈ (numsR s most k r).2, n ≤ most) ∧ (r.pos ≤ s.length → (numsR s most k r).1.pos ≤ s.length)
  | 0, r, h => ⟨h, by simp [numsR], by simp [numsR], by simp [numsR]⟩
  | k + 1, r, h => by
    rw [numsR] at h ⊢
    simp only at h ⊢
    obtain ⟨a1, a2, a3, a4⟩ := numsR_ok k (numR s most r).1 h
    obtain ⟨b1, b2, b3, _, b5⟩ := numR_ok (s := s) (most := most) (r := r) (r' := (numR s most r).1) (n := (numR s most r).2) rfl a1
    refine ⟨b1, ?_, ?_, fun h => a4 (b5 h)⟩
    · rw [b2, a2]; simp
    · intro n hn
      rcases List.mem_cons.1 hn with rfl | hn
      · exact b3
      · exact a3 n hn
theorem rowR_len (s : List UInt8) (most : Nat) (r : RS) : (rowR s most r).2.length ≤ most := by
  unfold rowR
  split
  · simp
  · split
    · simp
    · rename_i h; exact (unrow_ok h).2
theorem textR_len (s : List UInt8) (most : Nat) (r : RS) : (textR s most r).2.length ≤ most := by
  unfold textR
  split
  · simp
  · split
    · simp
    · split
      · simp
      · split
        · simp
        · simp only [List.length_take]; omega
/-- What is read of bytes, before it is looked at. -/
structure Raw where
  r : RS
  n8 : List Nat
  pay : List UInt8
  n3 : List Nat
  l : List Nat
  ms : List Nat
def R8 (s : List UInt8) : RS × List Nat := numsR s 2000000 8 ⟨0, 0⟩
def RT (s : List UInt8) : RS × List UInt8 := textR s 300 (R8 s).1
def R3 (s : List UInt8) : RS × List Nat := numsR s 2000000 3 (RT s).1
def RL (s : List UInt8) : RS × List Nat := rowR s 400 (R3 s).1
def RM (s : List UInt8) : RS × List Nat := rowR s 9 (RL s).1
def rawOf (s : List UInt8) : Raw := ⟨endR s (RM s).1, (R8 s).2, (RT s).2, (R3 s).2, (RL s).2, (RM s).2⟩
/-- The pairs of a row. -/
def unfl : List Nat → List (Int × Int)
  | a :: b :: l => ((a : Int), (b : Int)) :: unfl l
  | _ => []
theorem unfl_len : ∀ l : List Nat, (unfl l).length = l.length / 2
  | [] => rfl
  | [_] => by simp [unfl]
  | a :: b :: l => by simp [unfl, unfl_len l]; omega
theorem unfl_take : ∀ (l : List Nat) (k : Nat), 2 * k + 1 < l.length → unfl (l.take (2 * (k + 1))) = unfl (l.take (2 * k)) ++ [(((l.getD (2 * k) 0 : Nat) : Int), ((l.getD (2 * k + 1) 0 : Nat) : Int))]
  | [], k, h => by simp at h
  | [_], k, h => by simp at h
  | a :: b :: l, 0, _ => by simp [unfl]
  | a :: b :: l, k + 1, h => by
    have e1 : 2 * (k + 1 + 1) = 2 * (k + 1) + 1 + 1 := by omega
    have e2 : 2 * (k + 1) = 2 * k + 1 + 1 := by omega
    rw [e1, List.take_succ_cons, List.take_succ_cons, unfl, unfl_take l k (by simp at h; omega)]
    rw [e2, List.take_succ_cons, List.take_succ_cons, unfl]
    simp
theorem unfl_odd : ∀ (l : List Nat), unfl (l.take (2 * (l.length / 2))) = unfl l
  | [] => rfl
  | [_] => by simp [unfl]
  | a :: b :: l => by
    have e1 : 2 * ((a :: b :: l).length / 2) = 2 * (l.length / 2) + 1 + 1 := by simp; omega
    rw [e1, List.take_succ_cons, List.take_succ_cons, unfl, unfl, unfl_odd l]
theorem flA_unfl : ∀ l : List Nat, l.length % 2 = 0 → (flA (unfl l)).map Int.toNat = l
  | [], _ => rfl
  | [_], h => by simp at h
  | a :: b :: l, h => by
    have ih := flA_unfl l (by simp at h; omega)
    unfold flA at ih ⊢
    simp [unfl, ih]
theorem unfl_flA : ∀ l : List (Int × Int), (∀ a ∈ l, 0 ≤ a.1 ∧ 0 ≤ a.2) → unfl ((flA l).map Int.toNat) = l
  | [], _ => rfl
  | a :: l, h => by
    have ih := unfl_flA l (fun x hx => h x (by simp [hx]))
    have h1 := h a (by simp)
    unfold flA at ih ⊢
    obtain ⟨x, y⟩ := a
    simp only [List.flatMap_cons, List.cons_append, List.nil_append, List.map_cons, unfl, ih]
    rw [Int.toNat_of_nonneg h1.1, Int.toNat_of_nonneg h1.2]
/-- The message that was read; where its rows lie is said beside. -/
def pmOf (x : Raw) (aA : Option Addr) (aC : Nat) (mA : Option Addr) (mC : Nat) : PM :=
  { k := (x.n8.getD 0 0 : Nat), fr := (x.n8.getD 1 0 : Nat), id := (x.n8.getD 2 0 : Nat), t := (x.n8.getD 3 0 : Nat), bal := (x.n8.getD 4 0 : Nat), abal := (x.n8.getD 5 0 : Nat), ph := (x.n8.getD 6 0 : Nat), q := (x.n8.getD 7 0 : Nat),
    pay := ⟨x.pay.toArray⟩, lo := (x.n3.getD 0 0 : Nat), hi := (x.n3.getD 1 0 : Nat), aA := aA, aC := aC, ats := (unfl x.l).toArray, mA := mA, mC := mC, mks := ints x.ms, dn := (x.n3.getD 2 0 : Nat) }
theorem chkM_at (x : Raw) (aA : Option Addr) (aC : Nat) (mA : Option Addr) (mC : Nat) : chkM (pmOf x aA aC mA mC) = chkM (pmOf x none 0 none 0) := rfl
/-- The code that Take tells. -/
def takeC (s : List UInt8) : Nat := if (rawOf s).r.e ≠ 0 then (rawOf s).r.e else if (rawOf s).l.length % 2 ≠ 0 then 5 else (chkM (pmOf (rawOf s) none 0 none 0)).toNat
theorem sameM_iff {a b : PM} : sameM a b = true ↔ (a.k = b.k ∧ a.fr = b.fr ∧ a.id = b.id ∧ a.t = b.t ∧ a.bal = b.bal ∧ a.abal = b.abal ∧ a.ph = b.ph ∧ a.q = b.q ∧ a.pay = b.pay ∧ a.lo = b.lo ∧ a.hi = b.hi ∧ a.dn = b.dn ∧ a.ats = b.ats ∧ a.mks = b.mks) := by
  unfold sameM; rw [decide_eq_true_eq]
theorem chkM_same {a b : PM} (h : sameM a b = true) : chkM a = chkM b := by
  obtain ⟨h1, h2, h3, h4, h5, h6, h7, h8, h9, h10, h11, h12, h13, h14⟩ := sameM_iff.1 h
  obtain ⟨k, fr, id, t, bal, abal, ph, q, pay, lo, hi, aA, aC, ats, mA, mC, mks, dn⟩ := a
  simp only at h1 h2 h3 h4 h5 h6 h7 h8 h9 h10 h11 h12 h13 h14
  subst h1 h2 h3 h4 h5 h6 h7 h8 h9 h10 h11 h12 h13 h14
  rfl
theorem msgB_same {a b : PM} (h : sameM a b = true) : msgB a = msgB b := by
  obtain ⟨h1, h2, h3, h4, h5, h6, h7, h8, h9, h10, h11, h12, h13, h14⟩ := sameM_iff.1 h
  unfold msgB m8 m3
  rw [h1, h2, h3, h4, h5, h6, h7, h8, h9, h10, h11, h12, h13, h14]
theorem nats_le {d : Array Int} {most : Nat} (h : ∀ x ∈ d.toList, 0 ≤ x ∧ x ≤ most) : ∀ n ∈ nats d, n ≤ most := by
  intro n hn
  unfold nats at hn
  obtain ⟨x, hx, rfl⟩ := List.mem_map.1 hn
  have := h x hx
  omega
/-- What was laid is read. -/
theorem raw_laid (m : PM) (h : OkM m) (t : List UInt8) : rawOf (msgB m ++ t) = ⟨endR (msgB m ++ t) ⟨(msgB m).length, 0⟩, nats (m8 m), m.pay.data.toList, nats (m3 m), nats (flA m.ats.toList).toArray, nats m.mks⟩ := by
  have hm : (2000000 : Nat) ≤ 9223372036854775807 := by omega
  have b8 : ∀ n ∈ nats (m8 m), n ≤ 2000000 := nats_le (by
    intro x hx
    obtain ⟨h1, h2, h3, h4, h5, h6, h7, h8, -⟩ := h
    simp [m8] at hx
    omega)
  have b3 : ∀ n ∈ nats (m3 m), n ≤ 2000000 := nats_le (by
    intro x hx
    have h1 := h.lo
    have h2 := h.hi
    have h3 := h.dn
    simp [m3] at hx
    omega)
  have hpl : m.pay.data.toList.length = m.pay.size := by simp
  have hla : (nats (flA m.ats.toList).toArray).length ≤ 400 := by
    have := h.ats
    rw [nats_len, List.size_toArray, flA_len]
    simp
    omega
  have hlm : (nats m.mks).length ≤ 9 := by rw [nats_len]; exact h.mks
  generalize hs : msgB m ++ t = s
  have hs' := hs
  unfold msgB at hs
  simp only [List.append_assoc] at hs
  have l8 : (nats (m8 m)).length = 8 := by rw [nats_len]; rfl
  have l3 : (nats (m3 m)).length = 3 := by rw [nats_len]; rfl
  have e8 := numsR_laid (s := s) hm (nats (m8 m)) ⟨0, 0⟩ rfl hs.symm b8
  rw [l8] at e8
  have d8 := drop_next (r := ⟨0, 0⟩) (s := s) hs.symm
  have eT := textR_laid (most := 300) (r := ⟨0 + ((nats (m8 m)).flatMap numB).length, 0⟩) rfl d8 (by have := h.pay; omega) (by have := h.pay; omega)
  have dT := drop_next (r := ⟨0 + ((nats (m8 m)).flatMap numB).length, 0⟩) d8
  have e3 := numsR_laid (s := s) hm (nats (m3 m)) ⟨0 + ((nats (m8 m)).flatMap numB).length + (textB m.pay.data.toList).length, 0⟩ rfl dT b3
  rw [l3] at e3
  have d3 := drop_next (r := ⟨0 + ((nats (m8 m)).flatMap numB).length + (textB m.pay.data.toList).length, 0⟩) dT
  have eL := rowR_laid (most := 400) (r := ⟨0 + ((nats (m8 m)).flatMap numB).length + (textB m.pay.data.toList).length + ((nats (m3 m)).flatMap numB).length, 0⟩) rfl d3 hla (by omega) h.la.nats
  have dL := drop_next (r := ⟨0 + ((nats (m8 m)).flatMap numB).length + (textB m.pay.data.toList).length + ((nats (m3 m)).flatMap numB).length, 0⟩) d3
  have eM := rowR_laid (most := 9) (r := ⟨0 + ((nats (m8 m)).flatMap numB).length + (textB m.pay.data.toList).length + ((nats (m3 m)).flatMap numB).length + (rowB (nats (flA m.ats.toList).toArray)).length, 0⟩) rfl dL hlm (by omega) h.lm.nats
  have hlen : (msgB m).length = 0 + ((nats (m8 m)).flatMap numB).length + (textB m.pay.data.toList).length + ((nats (m3 m)).flatMap numB).length + (rowB (nats (flA m.ats.toList).toArray)).length + (rowB (nats m.mks)).length := by
    unfold msgB; simp only [List.length_append]; omega
  rw [hlen]
  have y8 : R8 s = numsR s 2000000 8 ⟨0, 0⟩ := rfl
  have x8 := y8.trans e8
  have yT : RT s = textR s 300 (R8 s).1 := rfl
  rw [x8] at yT
  have xT := yT.trans eT
  have y3 : R3 s = numsR s 2000000 3 (RT s).1 := rfl
  rw [xT] at y3
  have x3 := y3.trans e3
  have yL : RL s = rowR s 400 (R3 s).1 := rfl
  rw [x3] at yL
  have xL := yL.trans eL
  have yM : RM s = rowR s 9 (RL s).1 := rfl
  rw [xL] at yM
  have xM := yM.trans eM
  unfold rawOf
  rw [x8, xT, x3, xL, xM]
theorem RM_eq (s : List UInt8) : rowR s 9 (RL s).1 = ((RM s).1, (RM s).2) := by show RM s = _; generalize RM s = x; rfl
theorem RL_eq (s : List UInt8) : rowR s 400 (R3 s).1 = ((RL s).1, (RL s).2) := by show RL s = _; generalize RL s = x; rfl
theorem RT_eq (s : List UInt8) : textR s 300 (R8 s).1 = ((RT s).1, (RT s).2) := by show RT s = _; generalize RT s = x; rfl
theorem R3_eq (s : List UInt8) : numsR s 2000000 3 (RT s).1 = R3 s := rfl
theorem R8_eq (s : List UInt8) : numsR s 2000000 8 ⟨0, 0⟩ = R8 s := rfl
theorem raw_r (s : List UInt8) : (rawOf s).r = endR s (RM s).1 := by simp only [rawOf]
/-- What is read was laid. -/
theorem raw_ok (s : List UInt8) (h : (rawOf s).r.e = 0) : s = (rawOf s).n8.flatMap numB ++ textB (rawOf s).pay ++ (rawOf s).n3.flatMap numB ++ rowB (rawOf s).l ++ rowB (rawOf s).ms ∧ (rawOf s).n8.length = 8 ∧ (rawOf s).n3.length = 3 := by
  rw [raw_r] at h
  have hM : (RM s).1.e = 0 ∧ (RM s).1.pos ≥ s.length := by
    generalize (RM s).1 = x at h
    unfold endR at h
    split at h
    · simp at h
    · rename_i hn; exact ⟨h, by omega⟩
  obtain ⟨m1, m2, _, _, _⟩ := rowR_ok (RM_eq s) hM.1
  obtain ⟨l1, l2, _, _, _⟩ := rowR_ok (RL_eq s) m1
  have k3 := numsR_ok (s := s) (most := 2000000) 3 (RT s).1
  rw [R3_eq] at k3
  obtain ⟨c1, c2, _, _⟩ := k3 l1
  obtain ⟨t1, t2, _, _⟩ := textR_ok (RT_eq s) c1
  have k8 := numsR_ok (s := s) (most := 2000000) 8 ⟨0, 0⟩
  rw [R8_eq] at k8
  obtain ⟨a1, a2, _, _⟩ := k8 t1
  have e0 : s.drop (RM s).1.pos = [] := List.drop_eq_nil_of_le hM.2
  have n8 := numsR_len s 2000000 8 ⟨0, 0⟩
  rw [R8_eq] at n8
  have n3 := numsR_len s 2000000 3 (RT s).1
  rw [R3_eq] at n3
  refine ⟨?_, by simpa only [rawOf] using n8, by simpa only [rawOf] using n3⟩
  have a3 : s = (R8 s).2.flatMap numB ++ s.drop (R8 s).1.pos := a2
  simp only [rawOf]
  rw [t2, c2, l2, m2, e0] at a3
  simp only [List.append_nil, ← List.append_assoc] at a3
  exact a3
theorem nats_ints (l : List Nat) : nats (ints l) = l := by
  unfold nats ints
  simp [Function.comp_def]
theorem ints_nats {d : Array Int} (h : ∀ j, j < d.size → 0 ≤ d[j]!) : ints (nats d) = d := by
  unfold nats ints
  refine arr_ext (by simp) ?_
  intro j hj
  have hj' : j < d.size := by simpa using hj
  have h0 := h j hj'
  rw [getElem!_pos d j hj'] at h0 ⊢
  rw [getElem!_pos _ j hj]
  simp
  omega
theorem list8 {l : List Nat} (h : l.length = 8) : l = [l.getD 0 0, l.getD 1 0, l.getD 2 0, l.getD 3 0, l.getD 4 0, l.getD 5 0, l.getD 6 0, l.getD 7 0] := by
  match l, h with
  | [a, b, c, d, e, f, g, i], _ => rfl
theorem list3 {l : List Nat} (h : l.length = 3) : l = [l.getD 0 0, l.getD 1 0, l.getD 2 0] := by
  match l, h with
  | [a, b, c], _ => rfl
/-- What Take takes is just what Put makes of it. -/
theorem msgB_raw (s : List UInt8) (h : (rawOf s).r.e = 0) (h2 : (rawOf s).l.length % 2 = 0) (aA : Option Addr) (aC : Nat) (mA : Option Addr) (mC : Nat) : msgB (pmOf (rawOf s) aA aC mA mC) = s := by
  obtain ⟨h1, l8, l3⟩ := raw_ok s h
  generalize rawOf s = x at h1 h2 l8 l3
  unfold msgB
  have e8 : nats (m8 (pmOf x aA aC mA mC)) = x.n8 := by
    conv => rhs; rw [list8 l8]
    simp [nats, m8, pmOf]
  have e3 : nats (m3 (pmOf x aA aC mA mC)) = x.n3 := by
    conv => rhs; rw [list3 l3]
    simp [nats, m3, pmOf]
  have eL : nats (flA (pmOf x aA aC mA mC).ats.toList).toArray = x.l := by
    show (flA (unfl x.l).toArray.toList).toArray.toList.map Int.toNat = x.l
    simp [flA_unfl x.l h2]
  have eM : nats (pmOf x aA aC mA mC).mks = x.ms := nats_ints _
  have eP : (pmOf x aA aC mA mC).pay.data.toList = x.pay := by simp [pmOf]
  rw [e8, e3, eL, eM, eP]
  exact h1.symm
theorem raw_same (m : PM) (h : OkM m) (t : List UInt8) (aA : Option Addr) (aC : Nat) (mA : Option Addr) (mC : Nat) : sameM m (pmOf (rawOf (msgB m ++ t)) aA aC mA mC) = true := by
  rw [raw_laid m h t]
  have ha : unfl (nats (flA m.ats.toList).toArray) = m.ats.toList := by
    unfold nats
    rw [List.toList_toArray]
    exact unfl_flA _ (fun a ha => ⟨(h.att a ha).1.1, (h.att a ha).2.1⟩)
  have hm : ints (nats m.mks) = m.mks := ints_nats (fun j hj => (h.mkv j hj).1)
  obtain ⟨h1, h2, h3, h4, h5, h6, h7, h8, -, h9, h10, h11, -⟩ := h
  rw [sameM_iff]
  unfold pmOf
  simp only [ha, hm]
  simp [nats, m8, m3]
  omega
theorem takeC_laid (m : PM) (h : chkM m = 0) : takeC (msgB m) = 0 := by
  have hok := okM_of h
  have e := raw_laid m hok []
  have hs := chkM_same (raw_same m hok [] none 0 none 0)
  rw [List.append_nil] at e hs
  have hr : (rawOf (msgB m)).r.e = 0 := by rw [e]; simp [endR]
  have hl : (rawOf (msgB m)).l.length % 2 = 0 := by rw [e]; simp [nats_len, flA_len]
  unfold takeC
  rw [hr, hl, ← hs, h]
  simp
theorem takeC_ok {s : List UInt8} (h : takeC s = 0) (aA : Option Addr) (aC : Nat) (mA : Option Addr) (mC : Nat) : (rawOf s).r.e = 0 ∧ (rawOf s).l.length % 2 = 0 ∧ chkM (pmOf (rawOf s) aA aC mA mC) = 0 ∧ msgB (pmOf (rawOf s) aA aC mA mC) = s := by
  unfold takeC at h
  split at h
  · contradiction
  · rename_i h1
    split at h
    · omega
    · rename_i h2
      have h1' : (rawOf s).r.e = 0 := by omega
      have h2' : (rawOf s).l.length % 2 = 0 := by omega
      refine ⟨h1', h2', ?_, msgB_raw s h1' h2' _ _ _ _⟩
      rw [chkM_at]
      rcases chk_3 (pmOf (rawOf s) none 0 none 0) with h' | h' | h'
      · exact h'
      · rw [h'] at h; simp at h
      · rw [h'] at h; simp at h
theorem takeC_more {s t : List UInt8} (h : takeC s = 0) (ht : t ≠ []) : takeC (s ++ t) ≠ 0 := by
  obtain ⟨_, _, h3, h4⟩ := takeC_ok h none 0 none 0
  have e := raw_laid _ (okM_of h3) t
  rw [h4] at e
  have : (rawOf (s ++ t)).r.e = 6 := by
    rw [e]
    have : 0 < t.length := List.length_pos_iff.2 ht
    show (endR (s ++ t) ⟨s.length, 0⟩).e = 6
    unfold endR
    rw [if_pos ⟨rfl, by rw [List.length_append]; show s.length < _; omega⟩]
  unfold takeC
  rw [this]
  simp
theorem takeC_cut {s : List UInt8} (h : takeC s = 0) (h0 : 0 < s.length) : takeC (s.take (s.length - 1)) ≠ 0 := by
  intro h'
  have h1 := takeC_more h' (t := s.drop (s.length - 1)) (by
    intro e
    have := congrArg List.length e
    simp at this
    omega)
  rw [List.take_append_drop] at h1
  exact h1 h
theorem msgB_len (m : PM) : 10 ≤ (msgB m).length := by
  have h8 : ∀ l : List Nat, l.length ≤ (l.flatMap numB).length := by
    intro l
    induction l with
    | nil => simp
    | cons n l ih => have := numB_pos n; rw [List.flatMap_cons, List.length_append, List.length_cons]; omega
  have a8 := h8 (nats (m8 m))
  have a3 := h8 (nats (m3 m))
  have l8 : (nats (m8 m)).length = 8 := by rw [nats_len]; rfl
  have l3 : (nats (m3 m)).length = 3 := by rw [nats_len]; rfl
  unfold msgB
  simp only [List.length_append]
  omega
end Go.Proofs.YtlpplnmmcgdooaaGreatDoor
