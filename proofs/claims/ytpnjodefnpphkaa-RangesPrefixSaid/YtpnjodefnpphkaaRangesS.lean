/- The plain law of few ranges: what is added, taken away and lacks always fits; the prefix; counting. -/
import Derived.Test.YtpnjodefnpphkaaRangesR
namespace Go.Proofs.Ytpnjodefnpphkaa
open Go.RowKit Go.Sort Go.Lib

/-! few ranges always fit -/
theorem Formed.isN {m was out : Array (Int × Int)} (h : Formed m was out) (hm : ∀ x ∈ m, isR x = true → 1 ≤ x.1 ∧ x.1 ≤ x.2 ∧ x.2 ≤ 1000000) (hs : m.size ≤ 1000) : IsN (inR m) out ∧ out.size ≤ m.size := by
  obtain ⟨s, hs', ho⟩ := h.fit hm
  obtain ⟨d', hd', ho'⟩ := h
  have hsz : (formF (d'.toList.filter isR)).size ≤ m.size := by
    have := foldF_size (d'.toList.filter isR) #[]
    have h2 := List.length_filter_le isR d'.toList
    have h5 : d'.toList.length = m.size := by rw [Array.length_toList, hd'.1]
    have h6 : (#[] : Array (Int × Int)).size = 0 := rfl
    rw [h6] at this
    unfold formF
    omega
  rw [if_pos (by omega)] at ho'
  refine ⟨?_, by rw [ho']; exact hsz⟩
  by_cases hc : s.size ≤ 1000
  · rw [if_pos hc] at ho; rw [ho]; exact hs'
  · have h3 := (Formed.fit (was := #[]) ⟨d', hd', rfl⟩ hm)
    obtain ⟨s2, hs2, ho2⟩ := h3
    have : s = s2 := hs'.uniq hs2
    subst this
    rw [if_pos (show (formF (d'.toList.filter isR)).size ≤ 1000 by omega), if_neg hc] at ho2
    have h4 := (Formed.fit (was := #[(0, 0)]) ⟨d', hd', rfl⟩ hm)
    obtain ⟨s3, hs3, ho3⟩ := h4
    have : s = s3 := hs'.uniq hs3
    subst this
    rw [if_pos (show (formF (d'.toList.filter isR)).size ≤ 1000 by omega), if_neg hc, ho2] at ho3
    simp at ho3
theorem IsN.congr {p q : Int → Bool} {s : Array (Int × Int)} (h : IsN p s) (e : ∀ n, p n = q n) : IsN q s := ⟨h.1, fun n => (h.2 n).trans (e n)⟩
theorem IsN.set {p : Int → Bool} {s : Array (Int × Int)} (h : IsN p s) (hs : s.size ≤ 1000) : setE s = 0 := h.1.set hs
theorem IsN.has {p : Int → Bool} {s : Array (Int × Int)} (h : IsN p s) (hs : s.size ≤ 1000) (n : Int) : hasB s n = p n := by
  unfold hasB; rw [h.set hs, h.2 n]; simp
theorem add_few {d1 d2 out : Array (Int × Int)} (hs : setE d1 = 0) (h : Formed (addsN d1 d2 d2.size) d1 out) (hz : d1.size + d2.size ≤ 1000) : IsN (pAdd d1 d2) out ∧ out.size ≤ d1.size + d2.size := by
  have := h.isN (addsN_ok hs _) (by rw [addsN_size]; exact hz)
  rw [addsN_size] at this
  refine ⟨this.1.congr fun n => ?_, this.2⟩
  rw [Bool.eq_iff_iff, addsN_in]
  unfold pAdd
  rw [Bool.and_eq_true, Bool.or_eq_true, may1_iff, ← inR_iff_at]
  constructor
  · rintro (h | h)
    · exact ⟨inR_may (NL.of_set hs) h, Or.inl h⟩
    · exact ⟨h.1, Or.inr h.2⟩
  · rintro ⟨h, h1 | h1⟩
    · exact Or.inl h1
    · exact Or.inr ⟨h, h1⟩
theorem less_p {d : Array (Int × Int)} {r : Int × Int} (hs : setE d = 0) (he : ¬ (heldR r).2 < (heldR r).1) (n : Int) : inR (lessN d (heldR r) d.size) n = pLess d r n := by
  have hd := NL.of_set hs
  rw [Bool.eq_iff_iff, lessN_in d _ (by omega), ← inR_iff_at]
  unfold pLess
  rw [Bool.and_eq_true, Bool.not_eq_true', Bool.eq_false_iff, Ne, inB_iff]
  constructor
  · rintro ⟨h1, h2⟩
    have := inR_may hd h1
    refine ⟨h1, ?_⟩
    unfold heldR at h2
    simp only at h2
    omega
  · rintro ⟨h1, h2⟩
    refine ⟨h1, ?_⟩
    unfold heldR
    simp only
    omega
theorem less_few {d out : Array (Int × Int)} {r : Int × Int} (hs : setE d = 0) (h : LessOut d r out) (hz : d.size ≤ 500) : IsN (pLess d r) out ∧ out.size ≤ 1000 := by
  have hl := h
  unfold LessOut at h
  split at h
  · obtain ⟨s, h1, h2⟩ := less_fit hs hl
    subst h
    have : out.size ≤ 1000 := by omega
    rename_i he
    refine ⟨⟨NL.of_set hs, fun n => ?_⟩, this⟩
    unfold pLess
    cases hn : inR out n
    · rfl
    · have := inR_may (NL.of_set hs) hn
      have e : inB n r = false := by
        rw [Bool.eq_false_iff]
        intro h; rw [inB_iff] at h
        unfold heldR at he
        simp only at he
        omega
      rw [e]; rfl
  · rename_i he
    have hb : 1 ≤ (heldR r).1 ∧ (heldR r).2 ≤ 1000000 := by unfold heldR; constructor <;> (simp only; omega)
    have := h.isN (lessN_ok hs (by omega) _ (Nat.le_refl _)) (by rw [lessN_size]; omega)
    rw [lessN_size] at this
    exact ⟨this.1.congr (less_p hs he), by omega⟩
theorem gaps_p {d : Array (Int × Int)} {r : Int × Int} (hs : setE d = 0) (n : Int) : inR (gapsE d (heldR r)) n = pGaps d r n := by
  have hb : 1 ≤ (heldR r).1 ∧ (heldR r).2 ≤ 1000000 := by unfold heldR; constructor <;> (simp only; omega)
  have hrr : ∀ n, ((heldR r).1 ≤ n ∧ n ≤ (heldR r).2) ↔ (1 ≤ n ∧ n ≤ 1000000) ∧ r.1 ≤ n ∧ n ≤ r.2 := by intro n; unfold heldR; simp only; omega
  have bd := gapsN_bd hs hb.1 hb.2 d.size (Nat.le_refl _)
  have hin := gapsN_in hs (heldR r).1 (heldR r).2 n d.size (Nat.le_refl _)
  have hlo := gapsN_lo hs (heldR r).1 (heldR r).2 d.size (Nat.le_refl _)
  have hge : (gapsN d (heldR r).1 (heldR r).2 d.size).2 ≤ n → inR d n = false := by
    intro h
    rw [Bool.eq_false_iff]; intro hn
    obtain ⟨j, hj, h1, h2⟩ := inR_iff_at.1 hn
    rw [if_neg (by omega)] at hlo
    have := (NL.of_set hs).2
    rw [List.pairwise_iff_getElem] at this
    rcases Nat.lt_or_ge j (d.size - 1) with h' | h'
    · have t := this j (d.size - 1) (by simp; omega) (by simp; omega) h'
      have b := ok_at hs (k := d.size - 1) (by omega)
      rw [getElem!_pos d j (by omega)] at h2
      rw [getElem!_pos d (d.size - 1) (by omega)] at b hlo
      simp at t
      omega
    · obtain rfl : j = d.size - 1 := by omega
      omega
  have hno : (∀ j, j < d.size → ¬ (d[j]!.1 ≤ n ∧ n ≤ d[j]!.2)) ↔ inR d n = false := by
    rw [Bool.eq_false_iff, Ne, inR_iff_at]
    exact ⟨fun h ⟨j, hj, hh⟩ => h j hj hh, fun h j hj hh => h ⟨j, hj, hh⟩⟩
  rw [hno] at hin
  unfold pGaps
  rw [Bool.eq_iff_iff, Bool.and_eq_true, Bool.and_eq_true, may1_iff, inB_iff, Bool.not_eq_true']
  have e1 : inR (gapsE d (heldR r)) n = true ↔ inR (gapsN d (heldR r).1 (heldR r).2 d.size).1 n = true ∨ ((gapsN d (heldR r).1 (heldR r).2 d.size).2 ≤ n ∧ n ≤ (heldR r).2) := by
    unfold gapsE
    split
    · rw [inR_push, Bool.or_eq_true, inB_iff]
    · constructor
      · exact Or.inl
      · rintro (h | h)
        · exact h
        · omega
  rw [e1, hin]
  constructor
  · rintro (⟨⟨h1, h2, _⟩, h4⟩ | ⟨h1, h2⟩)
    · have := (hrr n).1 ⟨h1, h2⟩
      exact ⟨this.1, this.2, h4⟩
    · have := (hrr n).1 ⟨by omega, h2⟩
      exact ⟨this.1, this.2, hge h1⟩
  · rintro ⟨h1, h2, h3⟩
    have := (hrr n).2 ⟨h1, h2⟩
    rcases Int.lt_or_le n (gapsN d (heldR r).1 (heldR r).2 d.size).2 with h | h
    · exact Or.inl ⟨⟨this.1, this.2, h⟩, h3⟩
    · exact Or.inr ⟨h, this.2⟩
/-- What lacks of few ranges always fits. -/
theorem gaps_few {d out : Array (Int × Int)} {r : Int × Int} (hs : setE d = 0) (h : GapsOut d r out) (hz : d.size ≤ 500) : IsN (pGaps d r) out ∧ out.size ≤ 1000 := by
  have hb : 1 ≤ (heldR r).1 ∧ (heldR r).2 ≤ 1000000 := by unfold heldR; constructor <;> (simp only; omega)
  have hsz := gapsE_size hs hb.1 hb.2
  have h1 := Formed.isN h (gapsE_ok hs hb.1 hb.2) (by omega)
  exact ⟨h1.1.congr (gaps_p hs), by omega⟩
/-! the prefix -/
theorem pre_has {d : Array (Int × Int)} (hs : setE d = 0) (b : Int) : b ≤ preE d b ∧ (preE d b ≤ b ∨ preE d b ≤ 1000000) ∧ (∀ n, b < n → n ≤ preE d b → inR d n = true) ∧ inR d (preE d b + 1) = false := by
  have hd := NL.of_set hs
  unfold preE
  rw [if_pos hs]
  cases hf : d.toList.find? (preB b) with
  | none =>
    refine ⟨Int.le_refl _, Or.inl (Int.le_refl _), fun n h1 h2 => ?_, ?_⟩
    · simp at h2; omega
    · rw [Bool.eq_false_iff]
      intro hn
      obtain ⟨x, hx, h1, h2⟩ := inR_iff.1 hn
      have := List.find?_eq_none.1 hf x hx
      unfold preB at this
      simp at this h1 h2
      omega
  | some x =>
    have hx := List.mem_of_find?_eq_some hf
    have hp := List.find?_some hf
    unfold preB at hp
    simp only [decide_eq_true_eq] at hp
    have o := hd.1 x hx
    simp only [Option.map_some, Option.getD_some]
    refine ⟨by omega, Or.inr o.2.2, fun n h1 h2 => inR_iff.2 ⟨x, hx, by omega, h2⟩, ?_⟩
    rw [Bool.eq_false_iff]
    intro hn
    obtain ⟨y, hy, h1, h2⟩ := inR_iff.1 hn
    obtain ⟨i, hi, rfl⟩ := List.mem_iff_getElem.1 hx
    obtain ⟨j, hj, rfl⟩ := List.mem_iff_getElem.1 hy
    have hpw := List.pairwise_iff_getElem.1 hd.2
    rcases Nat.lt_trichotomy i j with h | rfl | h
    · have := hpw i j hi hj h; omega
    · omega
    · have := hpw j i hj hi h; omega
theorem pre_ge {d : Array (Int × Int)} (hs : setE d = 0) {b q : Int} (h : ∀ n, b < n → n ≤ q → inR d n = true) : q ≤ preE d b := by
  obtain ⟨h1, _, _, h4⟩ := pre_has hs b
  rcases Int.lt_or_le (preE d b) q with hl | hl
  · rw [h _ (by omega) (by omega)] at h4; cases h4
  · exact hl
/-! counting -/
def sumL (l : List (Int × Int)) : Int := (l.map fun x => x.2 - x.1 + 1).sum
theorem cntN_take (d : Array (Int × Int)) : ∀ k, k ≤ d.size → cntN d k = sumL (d.toList.take k)
  | 0, _ => by simp [cntN, sumL]
  | k + 1, hk => by
    have := cntN_take d k (by omega)
    have e : d.toList.take (k + 1) = d.toList.take k ++ [d[k]!] := by
      rw [List.take_succ_eq_append_getElem (by simp; omega), getElem!_pos d k (by omega)]; simp
    unfold cntN
    rw [this, e]
    simp [sumL]
/-- How many numbers from 1 to m are in some ranges. -/
def numL (l : List (Int × Int)) : Nat → Int
  | 0 => 0
  | m + 1 => numL l m + if l.any (inB (m + 1 : Nat)) = true then 1 else 0
theorem numL_mono {l k : List (Int × Int)} (h : ∀ n, l.any (inB n) = true → k.any (inB n) = true) : ∀ m, numL l m ≤ numL k m
  | 0 => Int.le_refl _
  | m + 1 => by
    have := numL_mono h m
    unfold numL
    by_cases hc : l.any (inB (m + 1 : Nat)) = true
    · rw [if_pos hc, if_pos (h _ hc)]; omega
    · rw [if_neg hc]; split <;> omega
theorem numL_nil : ∀ m, numL [] m = 0
  | 0 => rfl
  | m + 1 => by unfold numL; rw [numL_nil m]; simp
theorem numL_one {x : Int × Int} (h1 : 1 ≤ x.1) (h2 : x.1 ≤ x.2) : ∀ m : Nat, numL [x] m = if (m : Int) < x.1 then 0 else if (m : Int) ≤ x.2 then (m : Int) - x.1 + 1 else x.2 - x.1 + 1
  | 0 => by unfold numL; rw [if_pos (by omega)]
  | m + 1 => by
    have ih := numL_one h1 h2 m
    unfold numL
    rw [ih]
    have e : ([x].any (inB (m + 1 : Nat)) = true) ↔ x.1 ≤ (m : Int) + 1 ∧ (m : Int) + 1 ≤ x.2 := by simp [inB]
    simp only [e]
    have e2 : ((m + 1 : Nat) : Int) = (m : Int) + 1 := by omega
    rw [e2]
    split <;> split <;> (try split) <;> (try split) <;> omega
theorem numL_cons {x : Int × Int} {l : List (Int × Int)} (h : NL (x :: l)) : ∀ m, numL (x :: l) m = numL [x] m + numL l m
  | 0 => rfl
  | m + 1 => by
    have ih := numL_cons h m
    unfold numL
    rw [ih]
    have hd : ¬ ([x].any (inB (m + 1 : Nat)) = true ∧ l.any (inB (m + 1 : Nat)) = true) := by
      rintro ⟨h1, h2⟩
      have := h.gt h2
      simp [inB] at h1
      omega
    have hc : (x :: l).any (inB (m + 1 : Nat)) = true ↔ [x].any (inB (m + 1 : Nat)) = true ∨ l.any (inB (m + 1 : Nat)) = true := by
      rw [any_cons]; simp [inB]
    by_cases a : [x].any (inB (m + 1 : Nat)) = true
    · have b : ¬ l.any (inB (m + 1 : Nat)) = true := fun h' => hd ⟨a, h'⟩
      rw [if_pos (hc.2 (Or.inl a)), if_pos a, if_neg b]; omega
    · by_cases b : l.any (inB (m + 1 : Nat)) = true
      · rw [if_pos (hc.2 (Or.inr b)), if_neg a, if_pos b]; omega
      · rw [if_neg (fun h' => (hc.1 h').elim a b), if_neg a, if_neg b]; omega
theorem sumL_num : ∀ {l : List (Int × Int)}, NL l → sumL l = numL l 1000000
  | [], _ => by rw [numL_nil]; rfl
  | x :: l, h => by
    have o := h.1 x (by simp)
    rw [numL_cons h, ← sumL_num h.tail, numL_one o.1 o.2.1]
    rw [if_neg (by omega)]
    have : sumL (x :: l) = (x.2 - x.1 + 1) + sumL l := by simp [sumL]
    rw [this]
    split <;> omega
theorem cnt_le {a b : Array (Int × Int)} (ha : setE a = 0) (hb : setE b = 0) (h : ∀ n, inR a n = true → inR b n = true) : cntE a ≤ cntE b := by
  unfold cntE
  rw [if_pos ha, if_pos hb, cntN_take _ _ (Nat.le_refl _), cntN_take _ _ (Nat.le_refl _), List.take_of_length_le (by simp), List.take_of_length_le (by simp), sumL_num (NL.of_set ha), sumL_num (NL.of_set hb)]
  exact numL_mono h _
/-! back to front -/
def revN (d : Array (Int × Int)) : Nat → Array (Int × Int)
  | 0 => #[]
  | k + 1 => (revN d k).push d[d.size - 1 - k]!
theorem revN_size (d : Array (Int × Int)) : ∀ k, (revN d k).size = k
  | 0 => rfl
  | k + 1 => by simp [revN, revN_size d k]
theorem revN_in (d : Array (Int × Int)) (n : Int) : ∀ k, k ≤ d.size → (inR (revN d k) n = true ↔ ∃ j, d.size - k ≤ j ∧ j < d.size ∧ d[j]!.1 ≤ n ∧ n ≤ d[j]!.2)
  | 0, _ => by
    constructor
    · intro h; simp [revN, inR] at h
    · rintro ⟨j, h1, h2, _⟩; omega
  | k + 1, hk => by
    show inR ((revN d k).push _) n = true ↔ _
    rw [inR_push, Bool.or_eq_true, revN_in d n k (by omega), inB_iff]
    constructor
    · rintro (⟨j, h1, h2, h3⟩ | h)
      · exact ⟨j, by omega, h2, h3⟩
      · exact ⟨d.size - 1 - k, by omega, by omega, h⟩
    · rintro ⟨j, h1, h2, h3⟩
      rcases Nat.lt_or_ge j (d.size - k) with h | h
      · obtain rfl : j = d.size - 1 - k := by omega
        exact Or.inr h3
      · exact Or.inl ⟨j, h, h2, h3⟩
theorem revN_all (d : Array (Int × Int)) (n : Int) : inR (revN d d.size) n = inR d n := by
  rw [Bool.eq_iff_iff, revN_in d n d.size (Nat.le_refl _), inR_iff_at]
  constructor
  · rintro ⟨j, _, h⟩; exact ⟨j, h⟩
  · rintro ⟨j, h⟩; exact ⟨j, by omega, h⟩
theorem pAdd_rev (d1 d2 : Array (Int × Int)) (n : Int) : pAdd d1 (revN d2 d2.size) n = pAdd d1 d2 n := by unfold pAdd; rw [revN_all]
theorem pAdd_again {d1 d2 m : Array (Int × Int)} (h : IsN (pAdd d1 d2) m) (n : Int) : pAdd m d2 n = pAdd d1 d2 n := by
  have := h.2 n
  unfold pAdd at this ⊢
  rw [this]
  cases may1 n <;> cases inR d1 n <;> cases inR d2 n <;> rfl

/-! the contracts for few ranges -/
theorem gAdd_few (A1 : Option Addr) (c1 : Nat) (d1 : Array (Int × Int)) (A2 : Option Addr) (c2 : Nat) (d2 : Array (Int × Int)) (w : World) (h1 : RdK encR 2 w.heap.size w A1 d1) (h2 : RdK encR 2 w.heap.size w A2 d2) (hs : setE d1 = 0) (hz : d1.size + d2.size ≤ 1000) :
    Calls Try.prog 35 #[.slice A1 d1.size c1, .slice A2 d2.size c2] w fun e w' => ∃ v out, e = .returned v ∧ IsN (pAdd d1 d2) out ∧ out.size ≤ d1.size + d2.size ∧ RdV w' v out ∧ Below w.heap.size w w' :=
  (gAdd_any A1 c1 d1 A2 c2 d2 w h1 h2 (by omega)).mono fun _ _ ⟨v, out, he, ho1, _, hown, hb⟩ => ⟨v, out, he, (add_few hs (ho1 hs) hz).1, (add_few hs (ho1 hs) hz).2, RdV.own hown, hb⟩
theorem gLess_few (A1 : Option Addr) (c1 : Nat) (d1 : Array (Int × Int)) (r : Int × Int) (w : World) (h1 : RdK encR 2 w.heap.size w A1 d1) (hs : setE d1 = 0) (hz : d1.size ≤ 500) :
    Calls Try.prog 37 #[.slice A1 d1.size c1, .agg #[.int .i64 r.1, .int .i64 r.2]] w fun e w' => ∃ v out, e = .returned v ∧ IsN (pLess d1 r) out ∧ out.size ≤ 1000 ∧ RdV w' v out ∧ Below w.heap.size w w' :=
  (gLess_any A1 c1 d1 r w h1).mono fun _ _ ⟨v, out, he, ho1, _, hown, hb⟩ => ⟨v, out, he, (less_few hs (ho1 hs) hz).1, (less_few hs (ho1 hs) hz).2, RdV.own hown, hb⟩
theorem gGaps_few (A1 : Option Addr) (c1 : Nat) (d1 : Array (Int × Int)) (r : Int × Int) (w : World) (h1 : RdK encR 2 w.heap.size w A1 d1) (hs : setE d1 = 0) (hz : d1.size ≤ 500) :
    Calls Try.prog 33 #[.slice A1 d1.size c1, .int .i64 r.1, .int .i64 r.2] w fun e w' => ∃ v out, e = .returned v ∧ IsN (pGaps d1 r) out ∧ out.size ≤ 1000 ∧ RdV w' v out ∧ Below w.heap.size w w' :=
  (gGaps_any A1 c1 d1 r w h1).mono fun _ _ ⟨v, out, he, ho1, _, hown, hb⟩ => ⟨v, out, he, (gaps_few hs (ho1 hs) hz).1, (gaps_few hs (ho1 hs) hz).2, RdV.own hown, hb⟩
end Go.Proofs.Ytpnjodefnpphkaa
