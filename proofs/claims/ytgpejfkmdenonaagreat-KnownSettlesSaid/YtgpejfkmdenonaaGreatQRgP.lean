/- The plain law of ranges: a set is fixed by its numbers; what the program and the document make of ranges is such a set, of the same numbers. Contracts of the layer 'ranges': Less, Cut. Contracts of the layer 'ranges': Gaps. -/
import Derived.Test.YtgpejfkmdenonaaGreatQRgF
import Derived.Deep.AppendLies
namespace Go.Proofs.YtgpejfkmdenonaaGreat
open Go.RowKit Go.Sort Go.Lib

def lessN (d : Array (Int × Int)) (r : Int × Int) : Nat → Array (Int × Int)
  | 0 => #[]
  | k + 1 => ((lessN d r k).push (d[k]!.1, min d[k]!.2 (r.1 - 1))).push (max d[k]!.1 (r.2 + 1), d[k]!.2)
theorem lessN_size (d : Array (Int × Int)) (r : Int × Int) : ∀ k, (lessN d r k).size = 2 * k
  | 0 => rfl
  | k + 1 => by simp [lessN, lessN_size d r k]; omega
theorem lessN_ok {d : Array (Int × Int)} {r : Int × Int} (h : setE_R d = 0) (hr : 1 ≤ r.2) : ∀ k, k ≤ d.size → ∀ x ∈ lessN d r k, isR x = true → 1 ≤ x.1 ∧ x.1 ≤ x.2 ∧ x.2 ≤ 1000000
  | 0, _, x, hx, _ => by simp [lessN] at hx
  | k + 1, hk, x, hx, hrx => by
    have o := ok_at h (k := k) (by omega)
    rcases Array.mem_push.1 hx with h' | rfl
    · rcases Array.mem_push.1 h' with h' | rfl
      · exact lessN_ok h hr k (by omega) x h' hrx
      · unfold isR at hrx
        simp only [decide_eq_true_eq] at hrx ⊢
        omega
    · unfold isR at hrx
      simp only [decide_eq_true_eq] at hrx ⊢
      omega
/-- What is left of a set without a range, or the set itself. -/
def LessOut (d : Array (Int × Int)) (r : Int × Int) (out : Array (Int × Int)) : Prop :=
  if (heldR r).2 < (heldR r).1 then out = d else Formed (lessN d (heldR r) d.size) d out
/-- Ranges from 1 to the last number, rising, none beside the next. -/
def NL (l : List (Int × Int)) : Prop := (∀ x ∈ l, 1 ≤ x.1 ∧ x.1 ≤ x.2 ∧ x.2 ≤ 1000000) ∧ l.Pairwise (fun x y => x.2 + 1 < y.1)
theorem inB_iff {n : Int} {x : Int × Int} : inB_R n x = true ↔ x.1 ≤ n ∧ n ≤ x.2 := by unfold inB_R; simp
theorem inL_iff {l : List (Int × Int)} {n : Int} : l.any (inB_R n) = true ↔ ∃ x ∈ l, x.1 ≤ n ∧ n ≤ x.2 := by simp [List.any_eq_true, inB_iff]
theorem inR_iff {d : Array (Int × Int)} {n : Int} : inR d n = true ↔ ∃ x ∈ d.toList, x.1 ≤ n ∧ n ≤ x.2 := inL_iff
theorem NL.tail {x : Int × Int} {l : List (Int × Int)} (h : NL (x :: l)) : NL l := ⟨fun y hy => h.1 y (by simp [hy]), (List.pairwise_cons.1 h.2).2⟩
theorem NL.gt {x : Int × Int} {l : List (Int × Int)} (h : NL (x :: l)) {n : Int} (hn : l.any (inB_R n) = true) : x.2 + 1 < n := by
  obtain ⟨y, hy, h1, _⟩ := inL_iff.1 hn
  have := (List.pairwise_cons.1 h.2).1 y hy
  omega
theorem any_cons {x : Int × Int} {l : List (Int × Int)} {n : Int} : (x :: l).any (inB_R n) = true ↔ (x.1 ≤ n ∧ n ≤ x.2) ∨ l.any (inB_R n) = true := by
  rw [List.any_cons, Bool.or_eq_true, inB_iff]
theorem NL.first {x y : Int × Int} {l m : List (Int × Int)} (h : NL (x :: l)) (k : NL (y :: m)) (e : ∀ n, (x :: l).any (inB_R n) = true → (y :: m).any (inB_R n) = true) : y.1 ≤ x.1 ∧ (x.1 = y.1 → x.2 ≤ y.2) := by
  have hx := h.1 x (by simp)
  have hy := k.1 y (by simp)
  constructor
  · rcases any_cons.1 (e x.1 (any_cons.2 (Or.inl ⟨by omega, by omega⟩))) with h1 | h1
    · omega
    · have := k.gt h1; omega
  · intro e1
    rcases Int.lt_or_le y.2 x.2 with hl | hl
    · rcases any_cons.1 (e (y.2 + 1) (any_cons.2 (Or.inl ⟨by omega, by omega⟩))) with h1 | h1
      · omega
      · have := k.gt h1; omega
    · exact hl
/-- Such ranges are fixed by the numbers in them. -/
theorem NL.uniq : ∀ {l m : List (Int × Int)}, NL l → NL m → (∀ n, l.any (inB_R n) = m.any (inB_R n)) → l = m
  | [], [], _, _, _ => rfl
  | [], y :: m, _, k, e => by
    have hy := k.1 y (by simp)
    have := e y.1
    rw [any_cons.2 (Or.inl ⟨by omega, by omega⟩)] at this
    simp at this
  | x :: l, [], h, _, e => by
    have hx := h.1 x (by simp)
    have := e x.1
    rw [any_cons.2 (Or.inl ⟨by omega, by omega⟩)] at this
    simp at this
  | x :: l, y :: m, h, k, e => by
    have a := h.first k (fun n hn => by rw [← e n]; exact hn)
    have b := k.first h (fun n hn => by rw [e n]; exact hn)
    have e1 : x.1 = y.1 := by omega
    have e2 : x.2 = y.2 := by have := a.2 e1; have := b.2 e1.symm; omega
    have e3 : x = y := Prod.ext e1 e2
    subst e3
    rw [NL.uniq h.tail k.tail fun n => ?_]
    rw [Bool.eq_iff_iff]
    have e' := e n
    constructor
    · intro hn
      have g := h.gt hn
      rcases any_cons.1 (e' ▸ any_cons.2 (Or.inr hn)) with h1 | h1
      · omega
      · exact h1
    · intro hn
      have g := k.gt hn
      rcases any_cons.1 (e'.symm ▸ any_cons.2 (Or.inr hn)) with h1 | h1
      · omega
      · exact h1
theorem NL.chain {d : Array (Int × Int)} (h : ∀ k, k < d.size → badAt d k = false) : NL d.toList := by
  have hk : ∀ k, k < d.size → 1 ≤ d[k]!.1 ∧ d[k]!.1 ≤ d[k]!.2 ∧ d[k]!.2 ≤ 1000000 ∧ (0 < k → d[k - 1]!.2 + 1 < d[k]!.1) := by
    intro k hk
    have := h k hk
    unfold badAt at this
    rw [decide_eq_false_iff_not] at this
    refine ⟨by omega, by omega, by omega, fun h0 => by omega⟩
  refine ⟨fun x hx => ?_, ?_⟩
  · obtain ⟨i, hi, rfl⟩ := List.mem_iff_getElem.1 hx
    have := hk i (by simpa using hi)
    rw [getElem!_pos d i (by simpa using hi)] at this
    simpa using ⟨this.1, this.2.1, this.2.2.1⟩
  · rw [List.pairwise_iff_getElem]
    have main : ∀ m i, i + m + 1 < d.size → d[i]!.2 + 1 < d[i + m + 1]!.1 := by
      intro m
      induction m with
      | zero => intro i hi; have := (hk (i + 1) (by omega)).2.2.2 (by omega); simpa using this
      | succ m ih =>
        intro i hi
        have a := ih i (by omega)
        have b := hk (i + m + 1) (by omega)
        have c := (hk (i + (m + 1) + 1) (by omega)).2.2.2 (by omega)
        have e : i + (m + 1) + 1 - 1 = i + m + 1 := by omega
        rw [e] at c
        omega
    intro i j hi hj hij
    have hi' : i < d.size := by simpa using hi
    have hj' : j < d.size := by simpa using hj
    obtain ⟨m, rfl⟩ : ∃ m, j = i + m + 1 := ⟨j - i - 1, by omega⟩
    have := main m i hj'
    rw [getElem!_pos d i hi', getElem!_pos d _ hj'] at this
    simpa using this
theorem NL.of_set {d : Array (Int × Int)} (h : setE_R d = 0) : NL d.toList := NL.chain (setE_all h).2
theorem NL.bad {d : Array (Int × Int)} (h : NL d.toList) (k : Nat) (hk : k < d.size) : badAt d k = false := by
  unfold badAt
  rw [decide_eq_false_iff_not]
  have a := h.1 d[k]! (by rw [getElem!_pos d k hk]; simp)
  have b : 0 < k → d[k - 1]!.2 + 1 < d[k]!.1 := fun h0 => by
    have := List.pairwise_iff_getElem.1 h.2 (k - 1) k (by simp; omega) (by simpa using hk) (by omega)
    rw [getElem!_pos d k hk, getElem!_pos d (k - 1) (by omega)]
    simpa using this
  omega
theorem NL.set {d : Array (Int × Int)} (h : NL d.toList) (hs : d.size ≤ 1000) : setE_R d = 0 := setE_ok hs h.bad
/-- The one set of just the numbers of which p tells true. -/
def IsN (p : Int → Bool) (s : Array (Int × Int)) : Prop := NL s.toList ∧ ∀ n, inR s n = p n
theorem IsN.uniq {p : Int → Bool} {s t : Array (Int × Int)} (h : IsN p s) (k : IsN p t) : s = t :=
  Array.toList_inj.1 (NL.uniq h.1 k.1 fun n => (h.2 n).trans (k.2 n).symm)
/-- That set, or what was there, if it has too many ranges. -/
def Fit (p : Int → Bool) (was out : Array (Int × Int)) : Prop := ∃ s, IsN p s ∧ out = if s.size ≤ 1000 then s else was
theorem Fit.uniq {p : Int → Bool} {was s t : Array (Int × Int)} (h : Fit p was s) (k : Fit p was t) : s = t := by
  obtain ⟨a, ha, rfl⟩ := h
  obtain ⟨b, hb, rfl⟩ := k
  rw [ha.uniq hb]
theorem Fit.congr {p q : Int → Bool} {was s : Array (Int × Int)} (h : Fit p was s) (e : ∀ n, p n = q n) : Fit q was s := by
  obtain ⟨a, ha, rfl⟩ := h
  exact ⟨a, ⟨ha.1, fun n => (ha.2 n).trans (e n)⟩, rfl⟩
theorem addF_list {out : Array (Int × Int)} {x : Int × Int} : (out = #[] ∧ (addF out x).toList = [x]) ∨ ∃ l y, out.toList = l ++ [y] ∧ (addF out x).toList = if x.1 ≤ y.2 + 1 then l ++ [(y.1, max y.2 x.2)] else l ++ [y, x] := by
  rcases Nat.eq_zero_or_pos out.size with h0 | h0
  · left
    obtain rfl : out = #[] := Array.eq_empty_of_size_eq_zero h0
    exact ⟨rfl, by simp [addF]⟩
  · right
    have hne : out.toList ≠ [] := fun e => by
      have h1 : out.toList.length = 0 := by rw [e]; rfl
      rw [Array.length_toList] at h1
      omega
    have e0 := (List.dropLast_concat_getLast hne).symm
    generalize out.toList.dropLast = l at e0
    generalize out.toList.getLast hne = y at e0
    refine ⟨l, y, e0, ?_⟩
    obtain rfl : out = (l ++ [y]).toArray := by rw [← e0]
    unfold addF
    have e1 : (l ++ [y]).toArray[(l ++ [y]).toArray.size - 1]! = y := by
      rw [getElem!_pos _ _ (by simp)]; simp
    rw [e1]
    by_cases hx : x.1 ≤ y.2 + 1
    · rw [if_pos ⟨by simp, hx⟩, if_pos hx]; simp
    · rw [if_neg (fun h => hx h.2), if_neg hx]; simp
theorem addF_ok {out : Array (Int × Int)} {x : Int × Int} (h : NL out.toList) (hx : 1 ≤ x.1 ∧ x.1 ≤ x.2 ∧ x.2 ≤ 1000000) (hl : ∀ y ∈ out.toList, y.1 ≤ x.1) :
    NL (addF out x).toList ∧ (∀ n, inR (addF out x) n = (inR out n || inB_R n x)) ∧ ∀ z, (∀ y ∈ out.toList, y.1 ≤ z) → x.1 ≤ z → ∀ y ∈ (addF out x).toList, y.1 ≤ z := by
  unfold inR
  rcases addF_list (out := out) (x := x) with ⟨rfl, e⟩ | ⟨l, y, e0, e⟩
  · rw [e]
    exact ⟨⟨by simpa using hx, by simp⟩, fun n => by simp, by simp⟩
  · rw [e0] at h hl
    rw [e, e0]
    have hp := List.pairwise_append.1 h.2
    have hy := h.1 y (by simp)
    have hxy := hl y (by simp)
    by_cases hc : x.1 ≤ y.2 + 1
    · rw [if_pos hc]
      refine ⟨⟨?_, ?_⟩, ?_, ?_⟩
      · intro z hz
        rcases List.mem_append.1 hz with hz | hz
        · exact h.1 z (by simp [hz])
        · simp at hz; subst hz; simp only; omega
      · rw [List.pairwise_append]
        refine ⟨hp.1, by simp, fun a ha b hb => ?_⟩
        simp at hb; subst hb
        exact hp.2.2 a ha y (by simp)
      · intro n
        rw [List.any_append, List.any_append, Bool.or_assoc]
        congr 1
        simp only [List.any_cons, List.any_nil, Bool.or_false]
        rw [Bool.eq_iff_iff, Bool.or_eq_true, inB_iff, inB_iff, inB_iff]
        simp only
        omega
      · intro z h1 h2 u hu
        rcases List.mem_append.1 hu with hu | hu
        · exact h1 u (by simp [hu])
        · simp at hu; subst hu; exact h1 y (by simp)
    · rw [if_neg hc]
      refine ⟨⟨?_, ?_⟩, ?_, ?_⟩
      · intro z hz
        rcases List.mem_append.1 hz with hz | hz
        · exact h.1 z (by simp [hz])
        · simp at hz; rcases hz with rfl | rfl
          · exact hy
          · exact hx
      · rw [List.pairwise_append]
        refine ⟨hp.1, by simp; omega, fun a ha b hb => ?_⟩
        have := hp.2.2 a ha y (by simp)
        simp at hb; rcases hb with rfl | rfl
        · exact this
        · omega
      · intro n
        simp only [List.any_append, List.any_cons, List.any_nil, Bool.or_false, Bool.or_assoc]
      · intro z h1 h2 u hu
        rcases List.mem_append.1 hu with hu | hu
        · exact h1 u (by simp [hu])
        · simp at hu; rcases hu with rfl | rfl
          · exact h1 _ (by simp)
          · exact h2
theorem foldF_ok : ∀ (l : List (Int × Int)) (out : Array (Int × Int)), NL out.toList → (∀ x ∈ l, 1 ≤ x.1 ∧ x.1 ≤ x.2 ∧ x.2 ≤ 1000000) → l.Pairwise (fun x y => x.1 ≤ y.1) → (∀ x ∈ l, ∀ y ∈ out.toList, y.1 ≤ x.1) →
    NL (l.foldl addF out).toList ∧ ∀ n, inR (l.foldl addF out) n = (inR out n || l.any (inB_R n))
  | [], out, h, _, _, _ => ⟨h, fun n => by simp⟩
  | x :: l, out, h, hx, hp, hl => by
    obtain ⟨a, b, c⟩ := addF_ok h (hx x (by simp)) (hl x (by simp))
    have hp' := List.pairwise_cons.1 hp
    have := foldF_ok l (addF out x) a (fun z hz => hx z (by simp [hz])) hp'.2 (fun z hz => c z.1 (hl z (by simp [hz])) (hp'.1 z hz))
    refine ⟨this.1, fun n => ?_⟩
    rw [List.foldl_cons, this.2 n, b n, List.any_cons, Bool.or_assoc]
theorem Formed.fit {m was out : Array (Int × Int)} (h : Formed m was out) (hm : ∀ x ∈ m, isR x = true → 1 ≤ x.1 ∧ x.1 ≤ x.2 ∧ x.2 ≤ 1000000) : Fit (inR m) was out := by
  obtain ⟨d', ⟨_, hmem, hs⟩, rfl⟩ := h
  have hp : d'.toList.Pairwise (fun x y => x.1 ≤ y.1) := by
    rw [List.pairwise_iff_getElem]
    intro i j hi hj hij
    have := hs i j hij (by simpa using hj)
    rw [getElem!_pos d' i (by simpa using hi), getElem!_pos d' j (by simpa using hj)] at this
    simpa using this
  have := foldF_ok (d'.toList.filter isR) #[] ⟨by simp, by simp⟩ (fun x hx => by
    obtain ⟨h1, h2⟩ := List.mem_filter.1 hx
    exact hm x ((hmem x).1 (by simpa using h1)) h2) (hp.filter _) (by simp)
  refine ⟨formF (d'.toList.filter isR), ⟨this.1, fun n => ?_⟩, rfl⟩
  show inR (List.foldl addF #[] (d'.toList.filter isR)) n = _
  rw [this.2 n]
  have e0 : inR #[] n = false := rfl
  rw [e0, Bool.false_or, Bool.eq_iff_iff, inL_iff, inR_iff]
  constructor
  · rintro ⟨x, hx, h1⟩
    obtain ⟨h3, _⟩ := List.mem_filter.1 hx
    exact ⟨x, by have := (hmem x).1 (by simpa using h3); simpa using this, h1⟩
  · rintro ⟨x, hx, h1, h2⟩
    refine ⟨x, List.mem_filter.2 ⟨by have := (hmem x).2 (by simpa using hx); simpa using this, ?_⟩, h1, h2⟩
    unfold isR; simp; omega
/-- Is a number one of those that there are? -/
def may1 (n : Int) : Bool := decide (1 ≤ n ∧ n ≤ 1000000)
theorem inR_push {d : Array (Int × Int)} {x : Int × Int} {n : Int} : inR (d.push x) n = (inR d n || inB_R n x) := by unfold inR; simp
theorem inR_may {d : Array (Int × Int)} (h : NL d.toList) {n : Int} (hn : inR d n = true) : 1 ≤ n ∧ n ≤ 1000000 := by
  obtain ⟨x, hx, h1, h2⟩ := inR_iff.1 hn
  have := h.1 x hx
  omega
theorem inR_iff_at {d : Array (Int × Int)} {n : Int} : inR d n = true ↔ ∃ j, j < d.size ∧ d[j]!.1 ≤ n ∧ n ≤ d[j]!.2 := by
  rw [inR_iff]
  constructor
  · rintro ⟨x, hx, h⟩
    obtain ⟨i, hi, rfl⟩ := List.mem_iff_getElem.1 hx
    have hi' : i < d.size := by simpa using hi
    exact ⟨i, hi', by rw [getElem!_pos d i hi']; simpa using h⟩
  · rintro ⟨j, hj, h⟩
    exact ⟨d[j]!, by rw [getElem!_pos d j hj]; simp, h⟩
theorem addsN_in (d1 d2 : Array (Int × Int)) (n : Int) : ∀ k, inR (addsN d1 d2 k) n = true ↔ inR d1 n = true ∨ ((1 ≤ n ∧ n ≤ 1000000) ∧ ∃ j, j < k ∧ d2[j]!.1 ≤ n ∧ n ≤ d2[j]!.2)
  | 0 => by simp [addsN]
  | k + 1 => by
    show inR ((addsN d1 d2 k).push _) n = true ↔ _
    rw [inR_push, Bool.or_eq_true, addsN_in d1 d2 n k, inB_iff]
    unfold heldR
    simp only
    constructor
    · rintro ((h | ⟨h, j, hj, hh⟩) | h)
      · exact Or.inl h
      · exact Or.inr ⟨h, j, by omega, hh⟩
      · exact Or.inr ⟨by omega, k, by omega, by omega, by omega⟩
    · rintro (h | ⟨h, j, hj, hh⟩)
      · exact Or.inl (Or.inl h)
      · rcases Nat.lt_or_ge j k with h' | h'
        · exact Or.inl (Or.inr ⟨h, j, h', hh⟩)
        · obtain rfl : j = k := by omega
          exact Or.inr (by omega)
/-- The numbers that are in one of both. -/
def pAdd (d1 d2 : Array (Int × Int)) (n : Int) : Bool := may1 n && (inR d1 n || inR d2 n)
def pLess (d : Array (Int × Int)) (r : Int × Int) (n : Int) : Bool := inR d n && !inB_R n r
def pGaps (d : Array (Int × Int)) (r : Int × Int) (n : Int) : Bool := may1 n && (inB_R n r && !inR d n)
theorem may1_iff {n : Int} : may1 n = true ↔ 1 ≤ n ∧ n ≤ 1000000 := by unfold may1; simp
theorem add_fit {d1 d2 out : Array (Int × Int)} (hs : setE_R d1 = 0) (h : Formed (addsN d1 d2 d2.size) d1 out) : Fit (pAdd d1 d2) d1 out :=
  (h.fit (addsN_ok hs _)).congr fun n => by
    rw [Bool.eq_iff_iff, addsN_in]
    unfold pAdd
    rw [Bool.and_eq_true, Bool.or_eq_true, may1_iff, ← inR_iff_at]
    constructor
    · rintro (h | h)
      · exact ⟨inR_may (NL.of_set hs) h, Or.inl h⟩
      · exact ⟨h.1, Or.inr h.2⟩
    · rintro ⟨h, h1 | h1⟩
      · exact Or.inl h1
      · exact Or.inr ⟨h, h1⟩
theorem lessN_in (d : Array (Int × Int)) (r : Int × Int) (hr : r.1 ≤ r.2) (n : Int) : ∀ k, inR (lessN d r k) n = true ↔ (∃ j, j < k ∧ d[j]!.1 ≤ n ∧ n ≤ d[j]!.2) ∧ ¬ (r.1 ≤ n ∧ n ≤ r.2)
  | 0 => by simp [lessN, inR]
  | k + 1 => by
    show inR (((lessN d r k).push _).push _) n = true ↔ _
    rw [inR_push, inR_push, Bool.or_eq_true, Bool.or_eq_true, lessN_in d r hr n k, inB_iff, inB_iff]
    simp only
    constructor
    · rintro ((⟨⟨j, hj, hh⟩, h⟩ | h) | h)
      · exact ⟨⟨j, by omega, hh⟩, h⟩
      · exact ⟨⟨k, by omega, by omega⟩, by omega⟩
      · exact ⟨⟨k, by omega, by omega⟩, by omega⟩
    · rintro ⟨⟨j, hj, hh⟩, h⟩
      rcases Nat.lt_or_ge j k with h' | h'
      · exact Or.inl (Or.inl ⟨⟨j, h', hh⟩, h⟩)
      · obtain rfl : j = k := by omega
        omega
theorem less_fit {d out : Array (Int × Int)} {r : Int × Int} (hs : setE_R d = 0) (h : LessOut d r out) : Fit (pLess d r) d out := by
  have hd := NL.of_set hs
  unfold LessOut at h
  split at h
  · rename_i he
    subst h
    refine ⟨out, ⟨hd, fun n => ?_⟩, by rw [if_pos (setE_all hs).1]⟩
    unfold pLess
    cases hn : inR out n
    · rfl
    · have := inR_may hd hn
      have e : inB_R n r = false := by
        rw [Bool.eq_false_iff]
        intro h; rw [inB_iff] at h
        unfold heldR at he
        simp only at he
        omega
      rw [e]; rfl
  · rename_i he
    have hb : 1 ≤ (heldR r).1 ∧ (heldR r).2 ≤ 1000000 := by unfold heldR; constructor <;> (simp only; omega)
    refine (h.fit (lessN_ok hs (by omega) _ (Nat.le_refl _))).congr fun n => ?_
    rw [Bool.eq_iff_iff, lessN_in d _ (by omega), ← inR_iff_at]
    unfold pLess
    rw [Bool.and_eq_true, Bool.not_eq_true', Bool.eq_false_iff, Ne, inB_iff]
    constructor
    · rintro ⟨h1, h2⟩
      have := inR_may hd h1
      refine ⟨h1, ?_⟩
      unfold heldR at h2
      simp only at h2
      omega
    · rintro ⟨h1, h2⟩
      refine ⟨h1, ?_⟩
      unfold heldR
      simp only
      omega
/-! what lacks -/
/-- What lacks up to the k-th range, and where what is left begins. -/
def gapsN (d : Array (Int × Int)) (lo hi : Int) : Nat → Array (Int × Int) × Int
  | 0 => (#[], lo)
  | k + 1 => if d[k]!.2 < (gapsN d lo hi k).2 then gapsN d lo hi k else
      ((if (gapsN d lo hi k).2 ≤ min (d[k]!.1 - 1) hi then (gapsN d lo hi k).1.push ((gapsN d lo hi k).2, min (d[k]!.1 - 1) hi) else (gapsN d lo hi k).1), max (gapsN d lo hi k).2 (d[k]!.2 + 1))
def gapsE (d : Array (Int × Int)) (r : Int × Int) : Array (Int × Int) :=
  if (gapsN d r.1 r.2 d.size).2 ≤ r.2 then (gapsN d r.1 r.2 d.size).1.push ((gapsN d r.1 r.2 d.size).2, r.2) else (gapsN d r.1 r.2 d.size).1
theorem gapsN_lo {d : Array (Int × Int)} (hs : setE_R d = 0) (lo hi : Int) : ∀ k, k ≤ d.size → (gapsN d lo hi k).2 = if k = 0 then lo else max lo (d[k - 1]!.2 + 1)
  | 0, _ => rfl
  | k + 1, hk => by
    have ih := gapsN_lo hs lo hi k (by omega)
    have a := ok_at hs (k := k) (by omega)
    have e1 : (gapsN d lo hi (k + 1)).2 = max (gapsN d lo hi k).2 (d[k]!.2 + 1) := by
      show (if d[k]!.2 < (gapsN d lo hi k).2 then gapsN d lo hi k else _).2 = _
      split
      · omega
      · rfl
    rw [e1, ih]
    by_cases h0 : k = 0
    · subst h0; simp
    · rw [if_neg h0, if_neg (by omega), Nat.add_sub_cancel]
      have := ok_at hs (k := k - 1) (by omega)
      have := a.2.2.2 (by omega)
      omega
theorem gapsN_bd {d : Array (Int × Int)} (hs : setE_R d = 0) {lo hi : Int} (h1 : 1 ≤ lo) (h2 : hi ≤ 1000000) : ∀ k, k ≤ d.size → lo ≤ (gapsN d lo hi k).2 ∧ ((gapsN d lo hi k).2 ≤ lo ∨ (gapsN d lo hi k).2 ≤ 1000001) ∧ (gapsN d lo hi k).1.size ≤ k ∧ ∀ x ∈ (gapsN d lo hi k).1, 1 ≤ x.1 ∧ x.1 ≤ x.2 ∧ x.2 ≤ 1000000
  | 0, _ => ⟨Int.le_refl _, Or.inl (Int.le_refl _), Nat.le_refl _, fun x hx => by simp [gapsN] at hx⟩
  | k + 1, hk => by
    have ih := gapsN_bd hs h1 h2 k (by omega)
    have a := ok_at hs (k := k) (by omega)
    unfold gapsN
    split
    · exact ⟨ih.1, ih.2.1, by omega, ih.2.2.2⟩
    · refine ⟨by show lo ≤ max _ _; omega, by show max _ _ ≤ lo ∨ max _ _ ≤ 1000001; omega, ?_, ?_⟩
      · show (if _ then _ else _ : Array (Int × Int)).size ≤ k + 1
        split
        · rw [Array.size_push]; omega
        · omega
      · intro x hx
        simp only at hx
        split at hx
        · rcases Array.mem_push.1 hx with h | rfl
          · exact ih.2.2.2 x h
          · simp only; omega
        · exact ih.2.2.2 x hx
theorem gapsN_in {d : Array (Int × Int)} (hs : setE_R d = 0) (lo hi n : Int) : ∀ k, k ≤ d.size → (inR (gapsN d lo hi k).1 n = true ↔ (lo ≤ n ∧ n ≤ hi ∧ n < (gapsN d lo hi k).2) ∧ ∀ j, j < k → ¬ (d[j]!.1 ≤ n ∧ n ≤ d[j]!.2))
  | 0, _ => by simp [gapsN, inR]; omega
  | k + 1, hk => by
    have ih := gapsN_in hs lo hi n k (by omega)
    have a := ok_at hs (k := k) (by omega)
    have l0 := gapsN_lo hs lo hi k (by omega)
    have l1 := gapsN_lo hs lo hi (k + 1) hk
    rw [if_neg (by omega), Nat.add_sub_cancel] at l1
    have lj : ∀ j, j < k → d[j]!.2 < (gapsN d lo hi k).2 := by
      intro j hj
      rw [l0, if_neg (by omega)]
      have := (NL.of_set hs).2
      rw [List.pairwise_iff_getElem] at this
      rcases Nat.lt_or_ge j (k - 1) with h | h
      · have t := this j (k - 1) (by simp; omega) (by simp; omega) h
        have b := ok_at hs (k := k - 1) (by omega)
        rw [getElem!_pos d j (by omega)]
        rw [getElem!_pos d (k - 1) (by omega)] at b ⊢
        simp at t
        omega
      · obtain rfl : j = k - 1 := by omega
        omega
    have hall : (∀ j, j < k + 1 → ¬ (d[j]!.1 ≤ n ∧ n ≤ d[j]!.2)) ↔ (∀ j, j < k → ¬ (d[j]!.1 ≤ n ∧ n ≤ d[j]!.2)) ∧ ¬ (d[k]!.1 ≤ n ∧ n ≤ d[k]!.2) :=
      ⟨fun h => ⟨fun j hj => h j (by omega), h k (by omega)⟩, fun h j hj => by
        rcases Nat.lt_or_ge j k with h' | h'
        · exact h.1 j h'
        · obtain rfl : j = k := by omega
          exact h.2⟩
    have hge : (gapsN d lo hi k).2 ≤ n → ∀ j, j < k → ¬ (d[j]!.1 ≤ n ∧ n ≤ d[j]!.2) := fun h j hj => by have := lj j hj; omega
    have hlt : lo ≤ n → n < (gapsN d lo hi k).2 → n < d[k]!.1 := by
      intro h1 h2
      rw [l0] at h2
      split at h2
      · omega
      · have := a.2.2.2 (by omega); omega
    rw [hall]
    unfold gapsN
    split
    · rename_i hc
      rw [ih]
      constructor
      · rintro ⟨⟨h1, h2, h3⟩, h4⟩
        exact ⟨⟨h1, h2, h3⟩, h4, by have := hlt h1 h3; omega⟩
      · rintro ⟨h1, h4, _⟩
        exact ⟨h1, h4⟩
    · rename_i hc
      simp only
      have key : inR (if (gapsN d lo hi k).2 ≤ min (d[k]!.1 - 1) hi then (gapsN d lo hi k).1.push ((gapsN d lo hi k).2, min (d[k]!.1 - 1) hi) else (gapsN d lo hi k).1) n = true ↔ inR (gapsN d lo hi k).1 n = true ∨ ((gapsN d lo hi k).2 ≤ n ∧ n ≤ d[k]!.1 - 1 ∧ n ≤ hi) := by
        split
        · rw [inR_push, Bool.or_eq_true, inB_iff]; simp only
          constructor
          · rintro (h | h)
            · exact Or.inl h
            · exact Or.inr (by omega)
          · rintro (h | h)
            · exact Or.inl h
            · exact Or.inr (by omega)
        · constructor
          · exact Or.inl
          · rintro (h | h)
            · exact h
            · omega
      rw [key, ih]
      have hll : lo ≤ (gapsN d lo hi k).2 := by
        rw [l0]; split <;> omega
      constructor
      · rintro (⟨⟨h1, h2, h3⟩, h4⟩ | ⟨h1, h2, h3⟩)
        · exact ⟨⟨h1, h2, by omega⟩, h4, by have := hlt h1 h3; omega⟩
        · exact ⟨⟨by omega, h3, by omega⟩, hge h1, by omega⟩
      · rintro ⟨⟨h1, h2, h3⟩, h4, h5⟩
        rcases Int.lt_or_le n (gapsN d lo hi k).2 with h | h
        · exact Or.inl ⟨⟨h1, h2, h⟩, h4⟩
        · exact Or.inr ⟨h, by omega, h2⟩
theorem gapsE_ok {d : Array (Int × Int)} (hs : setE_R d = 0) {r : Int × Int} (h1 : 1 ≤ r.1) (h2 : r.2 ≤ 1000000) : ∀ x ∈ gapsE d r, isR x = true → 1 ≤ x.1 ∧ x.1 ≤ x.2 ∧ x.2 ≤ 1000000 := by
  have b := gapsN_bd hs h1 h2 d.size (Nat.le_refl _)
  intro x hx _
  unfold gapsE at hx
  split at hx
  · rcases Array.mem_push.1 hx with h | rfl
    · exact b.2.2.2 x h
    · simp only; omega
  · exact b.2.2.2 x hx
theorem gapsE_size {d : Array (Int × Int)} (hs : setE_R d = 0) {r : Int × Int} (h1 : 1 ≤ r.1) (h2 : r.2 ≤ 1000000) : (gapsE d r).size ≤ d.size + 1 := by
  have b := gapsN_bd hs h1 h2 d.size (Nat.le_refl _)
  unfold gapsE
  split
  · simp; omega
  · omega
theorem gaps_fit {d out : Array (Int × Int)} {r : Int × Int} (hs : setE_R d = 0) (h : Formed (gapsE d (heldR r)) #[] out) : Fit (pGaps d r) #[] out := by
  have hb : 1 ≤ (heldR r).1 ∧ (heldR r).2 ≤ 1000000 := by unfold heldR; constructor <;> (simp only; omega)
  have hrr : ∀ n, ((heldR r).1 ≤ n ∧ n ≤ (heldR r).2) ↔ (1 ≤ n ∧ n ≤ 1000000) ∧ r.1 ≤ n ∧ n ≤ r.2 := by intro n; unfold heldR; simp only; omega
  refine (h.fit (gapsE_ok hs hb.1 hb.2)).congr fun n => ?_
  have bd := gapsN_bd hs hb.1 hb.2 d.size (Nat.le_refl _)
  have hin := gapsN_in hs (heldR r).1 (heldR r).2 n d.size (Nat.le_refl _)
  have hlo := gapsN_lo hs (heldR r).1 (heldR r).2 d.size (Nat.le_refl _)
  have hge : (gapsN d (heldR r).1 (heldR r).2 d.size).2 ≤ n → inR d n = false := by
    intro h
    rw [Bool.eq_false_iff]; intro hn
    obtain ⟨j, hj, h1, h2⟩ := inR_iff_at.1 hn
    rw [if_neg (by omega)] at hlo
    have := (NL.of_set hs).2
    rw [List.pairwise_iff_getElem] at this
    rcases Nat.lt_or_ge j (d.size - 1) with h' | h'
    · have t := this j (d.size - 1) (by simp; omega) (by simp; omega) h'
      have b := ok_at hs (k := d.size - 1) (by omega)
      rw [getElem!_pos d j (by omega)] at h2
      rw [getElem!_pos d (d.size - 1) (by omega)] at b hlo
      simp at t
      omega
    · obtain rfl : j = d.size - 1 := by omega
      omega
  have hno : (∀ j, j < d.size → ¬ (d[j]!.1 ≤ n ∧ n ≤ d[j]!.2)) ↔ inR d n = false := by
    rw [Bool.eq_false_iff, Ne, inR_iff_at]
    exact ⟨fun h ⟨j, hj, hh⟩ => h j hj hh, fun h j hj hh => h ⟨j, hj, hh⟩⟩
  rw [hno] at hin
  unfold pGaps
  rw [Bool.eq_iff_iff, Bool.and_eq_true, Bool.and_eq_true, may1_iff, inB_iff, Bool.not_eq_true']
  have e1 : inR (gapsE d (heldR r)) n = true ↔ inR (gapsN d (heldR r).1 (heldR r).2 d.size).1 n = true ∨ ((gapsN d (heldR r).1 (heldR r).2 d.size).2 ≤ n ∧ n ≤ (heldR r).2) := by
    unfold gapsE
    split
    · rw [inR_push, Bool.or_eq_true, inB_iff]
    · constructor
      · exact Or.inl
      · rintro (h | h)
        · exact h
        · omega
  rw [e1, hin]
  constructor
  · rintro (⟨⟨h1, h2, _⟩, h4⟩ | ⟨h1, h2⟩)
    · have := (hrr n).1 ⟨h1, h2⟩
      exact ⟨this.1, this.2, h4⟩
    · have := (hrr n).1 ⟨by omega, h2⟩
      exact ⟨this.1, this.2, hge h1⟩
  · rintro ⟨h1, h2, h3⟩
    have := (hrr n).2 ⟨h1, h2⟩
    rcases Int.lt_or_le n (gapsN d (heldR r).1 (heldR r).2 d.size).2 with h | h
    · exact Or.inl ⟨⟨this.1, this.2, h⟩, h3⟩
    · exact Or.inr ⟨h, this.2⟩
/-! the document's: the numbers at which something changes -/
def putL (n : Int) : List Int → List Int
  | [] => [n]
  | x :: l => if x < n then x :: putL n l else if x = n then x :: l else n :: x :: l
theorem putL_mem (n : Int) : ∀ (l : List Int) (y : Int), y ∈ putL n l ↔ y = n ∨ y ∈ l
  | [], y => by simp [putL]
  | x :: l, y => by
    unfold putL
    split
    · rw [List.mem_cons, putL_mem n l y, List.mem_cons]
      constructor
      · rintro (h | h | h) <;> simp [h]
      · rintro (h | h | h) <;> simp [h]
    · split
      · rename_i h; subst h; simp
      · simp
theorem putL_sorted (n : Int) : ∀ (l : List Int), l.Pairwise (· < ·) → (putL n l).Pairwise (· < ·)
  | [], _ => by simp [putL]
  | x :: l, h => by
    have hp := List.pairwise_cons.1 h
    unfold putL
    split
    · rename_i hx
      rw [List.pairwise_cons]
      refine ⟨fun y hy => ?_, putL_sorted n l hp.2⟩
      rcases (putL_mem n l y).1 hy with rfl | hy
      · exact hx
      · exact hp.1 y hy
    · split
      · exact h
      · rw [List.pairwise_cons]
        refine ⟨fun y hy => ?_, h⟩
        rcases List.mem_cons.1 hy with rfl | hy
        · omega
        · have := hp.1 y hy; omega
theorem putL_at (n : Int) : ∀ (l : List Int) (k : Nat), k ≤ l.length → (∀ j (h : j < l.length), j < k → l[j] < n) → (∀ h : k < l.length, n ≤ l[k]) → putL n l = if k < l.length ∧ l[k]! = n then l else l.take k ++ n :: l.drop k
  | [], k, hk, _, _ => by simp [putL]
  | x :: l, 0, _, _, h2 => by
    have := h2 (by simp)
    simp at this
    unfold putL
    rw [if_neg (by omega)]
    by_cases e : x = n
    · rw [if_pos e, if_pos ⟨by simp, by simpa using e⟩]
    · rw [if_neg e, if_neg (by rintro ⟨_, h⟩; exact e (by simpa using h))]; simp
  | x :: l, k + 1, hk, h1, h2 => by
    have a := h1 0 (by simp) (by omega)
    simp at a
    have := putL_at n l k (by simpa using hk) (fun j h hj => by have := h1 (j + 1) (by simpa using h) (by omega); simpa using this) (fun h => by have := h2 (by simpa using h); simpa using this)
    unfold putL
    rw [if_pos a, this]
    by_cases e : k < l.length ∧ l[k]! = n
    · rw [if_pos e, if_pos ⟨by simp; exact e.1, by simpa using e.2⟩]
    · rw [if_neg e, if_neg (by rintro ⟨h, h'⟩; exact e ⟨by simpa using h, by simpa using h'⟩)]; simp
def edgesN (l : Array (Int × Int)) : Nat → List Int
  | 0 => [1]
  | k + 1 =>
    let o := if 1 < l[k]!.1 ∧ l[k]!.1 ≤ 1000000 then putL l[k]!.1 (edgesN l k) else edgesN l k
    if 1 ≤ l[k]!.2 ∧ l[k]!.2 < 1000000 then putL (l[k]!.2 + 1) o else o
theorem edgesN_succ (l : Array (Int × Int)) (k : Nat) : edgesN l (k + 1) = (if 1 ≤ l[k]!.2 ∧ l[k]!.2 < 1000000 then putL (l[k]!.2 + 1) (if 1 < l[k]!.1 ∧ l[k]!.1 ≤ 1000000 then putL l[k]!.1 (edgesN l k) else edgesN l k) else (if 1 < l[k]!.1 ∧ l[k]!.1 ≤ 1000000 then putL l[k]!.1 (edgesN l k) else edgesN l k)) := rfl
theorem putL_len (n : Int) : ∀ l : List Int, (putL n l).length ≤ l.length + 1
  | [] => by simp [putL]
  | x :: l => by
    have := putL_len n l
    unfold putL
    split
    · simp; omega
    · split <;> simp
theorem edgesN_len (l : Array (Int × Int)) : ∀ k, (edgesN l k).length ≤ 2 * k + 1
  | 0 => by simp [edgesN]
  | k + 1 => by
    have := edgesN_len l k
    have a := putL_len l[k]!.1 (edgesN l k)
    rw [edgesN_succ]
    split
    · refine Nat.le_trans (putL_len _ _) ?_
      split <;> omega
    · split <;> omega
theorem edgesN_sorted (l : Array (Int × Int)) : ∀ k, (edgesN l k).Pairwise (· < ·)
  | 0 => by simp [edgesN]
  | k + 1 => by
    have := edgesN_sorted l k
    have a := putL_sorted l[k]!.1 _ this
    rw [edgesN_succ]
    split
    · apply putL_sorted
      split
      · exact a
      · exact this
    · split
      · exact a
      · exact this
theorem edgesN_mem (l : Array (Int × Int)) (y : Int) : ∀ k, y ∈ edgesN l k ↔ y = 1 ∨ ∃ j, j < k ∧ ((y = l[j]!.1 ∧ 1 < l[j]!.1 ∧ l[j]!.1 ≤ 1000000) ∨ (y = l[j]!.2 + 1 ∧ 1 ≤ l[j]!.2 ∧ l[j]!.2 < 1000000))
  | 0 => by simp [edgesN]
  | k + 1 => by
    have ih := edgesN_mem l y k
    have step : y ∈ edgesN l (k + 1) ↔ y ∈ edgesN l k ∨ ((y = l[k]!.1 ∧ 1 < l[k]!.1 ∧ l[k]!.1 ≤ 1000000) ∨ (y = l[k]!.2 + 1 ∧ 1 ≤ l[k]!.2 ∧ l[k]!.2 < 1000000)) := by
      rw [edgesN_succ]
      split
      · rw [putL_mem]
        split
        · rw [putL_mem]
          constructor
          · rintro (h | h | h)
            · exact Or.inr (Or.inr ⟨h, by omega, by omega⟩)
            · exact Or.inr (Or.inl ⟨h, by omega, by omega⟩)
            · exact Or.inl h
          · rintro (h | h | h)
            · exact Or.inr (Or.inr h)
            · exact Or.inr (Or.inl h.1)
            · exact Or.inl h.1
        · constructor
          · rintro (h | h)
            · exact Or.inr (Or.inr ⟨h, by omega, by omega⟩)
            · exact Or.inl h
          · rintro (h | h | h)
            · exact Or.inr h
            · omega
            · exact Or.inl h.1
      · split
        · rw [putL_mem]
          constructor
          · rintro (h | h)
            · exact Or.inr (Or.inl ⟨h, by omega, by omega⟩)
            · exact Or.inl h
          · rintro (h | h | h)
            · exact Or.inr h
            · exact Or.inl h.1
            · omega
        · constructor
          · exact Or.inl
          · rintro (h | h | h)
            · exact h
            · omega
            · omega
    rw [step, ih]
    constructor
    · rintro ((h | ⟨j, hj, h⟩) | h)
      · exact Or.inl h
      · exact Or.inr ⟨j, by omega, h⟩
      · exact Or.inr ⟨k, by omega, h⟩
    · rintro (h | ⟨j, hj, h⟩)
      · exact Or.inl (Or.inl h)
      · rcases Nat.lt_or_ge j k with h' | h'
        · exact Or.inl (Or.inr ⟨j, h', h⟩)
        · obtain rfl : j = k := by omega
          exact Or.inr h
/-- The numbers from 1 to the last at which one of some ranges begins, or behind which one ends. -/
def edgesE (l : Array (Int × Int)) : Array Int := (edgesN l l.size).toArray
theorem edgesE_size (l : Array (Int × Int)) : (edgesE l).size ≤ 2 * l.size + 1 := by have := edgesN_len l l.size; simpa [edgesE] using this
theorem edgesE_len (l : Array (Int × Int)) : (edgesE l).size = (edgesN l l.size).length := by simp [edgesE]
theorem edgesE_get (l : Array (Int × Int)) {i : Nat} (h : i < (edgesN l l.size).length) : (edgesE l)[i]! = (edgesN l l.size)[i] := by
  show (edgesN l l.size).toArray[i]! = _
  rw [getElem!_pos _ i (by simpa using h)]; simp
/-- Where the next edge is, or the end. -/
def bndN (e : Array Int) (i : Nat) : Int := if i < e.size then e[i]! else 1000001
theorem bndN_bd (l : Array (Int × Int)) (i : Nat) : 1 ≤ bndN (edgesE l) i ∧ bndN (edgesE l) i ≤ 1000001 ∧ (i < (edgesE l).size → (edgesE l)[i]! ≤ 1000000) := by
  have : i < (edgesE l).size → 1 ≤ (edgesE l)[i]! ∧ (edgesE l)[i]! ≤ 1000000 := fun h => by
    have : (edgesE l)[i]! ∈ edgesN l l.size := by rw [edgesE_get l (by rw [← edgesE_len]; exact h)]; simp
    rw [edgesN_mem] at this
    rcases this with h | ⟨j, _, h | h⟩ <;> omega
  unfold bndN
  split
  · rename_i h; have := this h; exact ⟨this.1, by omega, fun _ => this.2⟩
  · exact ⟨by omega, by omega, fun h => (this h).2⟩
theorem bndN_zero (l : Array (Int × Int)) : bndN (edgesE l) 0 = 1 := by
  have b := bndN_bd l 0
  have h1 : (1 : Int) ∈ edgesN l l.size := (edgesN_mem l 1 l.size).2 (Or.inl rfl)
  obtain ⟨i, hi, e⟩ := List.mem_iff_getElem.1 h1
  have hs := edgesN_sorted l l.size
  rw [List.pairwise_iff_getElem] at hs
  have h0 : 0 < (edgesE l).size := by unfold edgesE; simp; omega
  unfold bndN at b ⊢
  rw [if_pos h0] at b ⊢
  rcases Nat.eq_zero_or_pos i with rfl | hp
  · rw [edgesE_get l hi]; exact e
  · have := hs 0 i (by omega) hi hp
    rw [e] at this
    have e2 := edgesE_get l (i := 0) (by omega)
    omega
theorem bndN_lt (l : Array (Int × Int)) {i : Nat} (h : i < (edgesE l).size) : (edgesE l)[i]! < bndN (edgesE l) (i + 1) := by
  have b := (bndN_bd l i).2.2 h
  unfold bndN
  split
  · rename_i h1
    have hs := edgesN_sorted l l.size
    rw [List.pairwise_iff_getElem] at hs
    have := hs i (i + 1) (by simpa [edgesE] using h) (by simpa [edgesE] using h1) (by omega)
    rw [edgesE_get l (by rw [← edgesE_len]; exact h), edgesE_get l (by rw [← edgesE_len]; exact h1)]
    exact this
  · omega
/-- Between two edges nothing changes. -/
theorem edge_gap (l : Array (Int × Int)) {i : Nat} (h : i < (edgesE l).size) {y : Int} (hy : y ∈ edgesN l l.size) (h1 : (edgesE l)[i]! < y) : bndN (edgesE l) (i + 1) ≤ y := by
  obtain ⟨j, hj, rfl⟩ := List.mem_iff_getElem.1 hy
  have hs := edgesN_sorted l l.size
  rw [List.pairwise_iff_getElem] at hs
  have hi : i < (edgesN l l.size).length := by simpa [edgesE] using h
  have e1 := edgesE_get l hi
  rw [e1] at h1
  have hij : i < j := by
    rcases Nat.lt_trichotomy i j with h' | rfl | h'
    · exact h'
    · omega
    · have := hs j i hj hi h'; omega
  have h2 : i + 1 < (edgesE l).size := by simp [edgesE]; omega
  unfold bndN
  rw [if_pos h2]
  have e2 := edgesE_get l (i := i + 1) (by omega)
  rw [e2]
  rcases Nat.lt_or_ge (i + 1) j with h' | h'
  · have := hs (i + 1) j (by omega) hj h'; omega
  · obtain rfl : j = i + 1 := by omega
    exact Int.le_refl _
theorem edge_same (l : Array (Int × Int)) {i : Nat} (h : i < (edgesE l).size) {n : Int} (h1 : (edgesE l)[i]! ≤ n) (h2 : n < bndN (edgesE l) (i + 1)) {j : Nat} (hj : j < l.size) : inB_R n l[j]! = inB_R (edgesE l)[i]! l[j]! := by
  have b := bndN_bd l (i + 1)
  have b0 := bndN_bd l i
  have b1 : 1 ≤ (edgesE l)[i]! := by have := b0.1; unfold bndN at this; rwa [if_pos h] at this
  rw [Bool.eq_iff_iff, inB_iff, inB_iff]
  constructor
  · rintro ⟨h3, h4⟩
    refine ⟨?_, by omega⟩
    rcases Int.lt_or_le (edgesE l)[i]! l[j]!.1 with h' | h'
    · have := edge_gap l h ((edgesN_mem l _ _).2 (Or.inr ⟨j, hj, Or.inl ⟨rfl, by omega, by omega⟩⟩)) h'
      omega
    · exact h'
  · rintro ⟨h3, h4⟩
    refine ⟨by omega, ?_⟩
    rcases Int.lt_or_le l[j]!.2 n with h' | h'
    · have := edge_gap l h ((edgesN_mem l (l[j]!.2 + 1) _).2 (Or.inr ⟨j, hj, Or.inr ⟨rfl, by omega, by omega⟩⟩)) (by omega)
      omega
    · exact h'
/-- The document's set behind the first i edges. -/
def ofN (a b : Array (Int × Int)) (e : Array Int) : Nat → Array (Int × Int)
  | 0 => #[]
  | i + 1 => if inR a e[i]! = false ∨ inR b e[i]! = true then ofN a b e i else
      if 0 < (ofN a b e i).size ∧ (ofN a b e i)[(ofN a b e i).size - 1]!.2 + 1 = e[i]! then (ofN a b e i).set! ((ofN a b e i).size - 1) ((ofN a b e i)[(ofN a b e i).size - 1]!.1, bndN e (i + 1) - 1)
      else (ofN a b e i).push (e[i]!, bndN e (i + 1) - 1)
theorem ofN_succ (a b : Array (Int × Int)) (e : Array Int) (i : Nat) : ofN a b e (i + 1) = if inR a e[i]! = false ∨ inR b e[i]! = true then ofN a b e i else
      if 0 < (ofN a b e i).size ∧ (ofN a b e i)[(ofN a b e i).size - 1]!.2 + 1 = e[i]! then (ofN a b e i).set! ((ofN a b e i).size - 1) ((ofN a b e i)[(ofN a b e i).size - 1]!.1, bndN e (i + 1) - 1)
      else (ofN a b e i).push (e[i]!, bndN e (i + 1) - 1) := rfl
def ofE (a b : Array (Int × Int)) : Array (Int × Int) := ofN a b (edgesE (a ++ b)) (edgesE (a ++ b)).size
/-- The numbers that are in one of a, and in none of b. -/
def pOf (a b : Array (Int × Int)) (n : Int) : Bool := may1 n && (inR a n && !inR b n)
theorem last_list (out : Array (Int × Int)) (h0 : 0 < out.size) (v : Int × Int) : ∃ l y, out.toList = l ++ [y] ∧ out[out.size - 1]! = y ∧ (out.set! (out.size - 1) v).toList = l ++ [v] := by
  have hne : out.toList ≠ [] := fun e => by
    have h1 : out.toList.length = 0 := by rw [e]; rfl
    rw [Array.length_toList] at h1
    omega
  have e0 := (List.dropLast_concat_getLast hne).symm
  generalize out.toList.dropLast = l at e0
  generalize out.toList.getLast hne = y at e0
  refine ⟨l, y, e0, ?_⟩
  obtain rfl : out = (l ++ [y]).toArray := by rw [← e0]
  refine ⟨?_, by simp⟩
  rw [getElem!_pos _ _ (by simp)]; simp
theorem in_same {l : Array (Int × Int)} {n m : Int} (h : ∀ j, j < l.size → inB_R n l[j]! = inB_R m l[j]!) : inR l n = inR l m := by
  rw [Bool.eq_iff_iff, inR_iff_at, inR_iff_at]
  constructor
  · rintro ⟨j, hj, hh⟩
    exact ⟨j, hj, inB_iff.1 (by rw [← h j hj]; exact inB_iff.2 hh)⟩
  · rintro ⟨j, hj, hh⟩
    exact ⟨j, hj, inB_iff.1 (by rw [h j hj]; exact inB_iff.2 hh)⟩
theorem ofN_ok (a b : Array (Int × Int)) : ∀ i, i ≤ (edgesE (a ++ b)).size → NL (ofN a b (edgesE (a ++ b)) i).toList ∧ (∀ y ∈ (ofN a b (edgesE (a ++ b)) i).toList, y.2 < bndN (edgesE (a ++ b)) i) ∧
    ∀ n, inR (ofN a b (edgesE (a ++ b)) i) n = true ↔ (1 ≤ n ∧ n < bndN (edgesE (a ++ b)) i) ∧ inR a n = true ∧ inR b n = false
  | 0, _ => by
    refine ⟨⟨by simp [ofN], by simp [ofN]⟩, by simp [ofN], fun n => ?_⟩
    rw [bndN_zero]
    simp [ofN, inR]; omega
  | i + 1, hi => by
    have hlt : i < (edgesE (a ++ b)).size := by omega
    obtain ⟨i1, i2, i3⟩ := ofN_ok a b i (by omega)
    have b1 := bndN_bd (a ++ b) (i + 1)
    have b0 := bndN_bd (a ++ b) i
    have bl := bndN_lt (a ++ b) hlt
    have be : bndN (edgesE (a ++ b)) i = (edgesE (a ++ b))[i]! := by unfold bndN; rw [if_pos hlt]
    have sa : ∀ n, (edgesE (a ++ b))[i]! ≤ n → n < bndN (edgesE (a ++ b)) (i + 1) → inR a n = inR a (edgesE (a ++ b))[i]! := fun n h1 h2 => in_same fun j hj => by
      have := edge_same (a ++ b) hlt h1 h2 (j := j) (by simp; omega)
      have e : (a ++ b)[j]! = a[j]! := by rw [getElem!_pos (a ++ b) j (by simp; omega), getElem!_pos a j hj, Array.getElem_append_left]
      rwa [e] at this
    have sb : ∀ n, (edgesE (a ++ b))[i]! ≤ n → n < bndN (edgesE (a ++ b)) (i + 1) → inR b n = inR b (edgesE (a ++ b))[i]! := fun n h1 h2 => in_same fun j hj => by
      have := edge_same (a ++ b) hlt h1 h2 (j := a.size + j) (by simp; omega)
      have e : (a ++ b)[a.size + j]! = b[j]! := by rw [getElem!_pos (a ++ b) _ (by simp; omega), getElem!_pos b j hj, Array.getElem_append_right (by omega)]; simp
      rwa [e] at this
    rw [be] at b0
    have b01 := b0.1
    have b02 := b0.2.2 hlt
    rw [be] at i2 i3
    rw [ofN_succ]
    generalize bndN (edgesE (a ++ b)) (i + 1) = B at *
    generalize (edgesE (a ++ b))[i]! = E at *
    generalize ofN a b (edgesE (a ++ b)) i = out at *
    by_cases hc : inR a E = false ∨ inR b E = true
    · rw [if_pos hc]
      refine ⟨i1, fun y hy => by have := i2 y hy; omega, fun n => ?_⟩
      rw [i3]
      constructor
      · rintro ⟨h1, h2⟩; exact ⟨by omega, h2⟩
      · rintro ⟨h1, h2, h3⟩
        rcases Int.lt_or_le n E with h | h
        · exact ⟨⟨h1.1, h⟩, h2, h3⟩
        · rw [sa n h h1.2] at h2
          rw [sb n h h1.2] at h3
          rcases hc with h' | h'
          · rw [h'] at h2; cases h2
          · rw [h'] at h3; cases h3
    · rw [if_neg hc]
      have ca : inR a E = true := by cases h : inR a E <;> simp_all
      have cb : inR b E = false := by cases h : inR b E <;> simp_all
      have mem : ∀ n, ((1 ≤ n ∧ n < B) ∧ inR a n = true ∧ inR b n = false) ↔ inR out n = true ∨ (E ≤ n ∧ n < B) := by
        intro n
        rw [i3]
        constructor
        · rintro ⟨h1, h2⟩
          rcases Int.lt_or_le n E with h | h
          · exact Or.inl ⟨⟨h1.1, h⟩, h2⟩
          · exact Or.inr ⟨h, h1.2⟩
        · rintro (⟨h1, h2⟩ | h)
          · exact ⟨by omega, h2⟩
          · exact ⟨by omega, by rw [sa n h.1 h.2]; exact ca, by rw [sb n h.1 h.2]; exact cb⟩
      by_cases hm : 0 < out.size ∧ out[out.size - 1]!.2 + 1 = E
      · rw [if_pos hm]
        obtain ⟨l, y, e0, ey, e2⟩ := last_list out hm.1 (out[out.size - 1]!.1, B - 1)
        rw [ey] at e2 hm ⊢
        unfold inR at mem ⊢
        rw [e2]
        rw [e0] at i1 i2 mem
        have hp := List.pairwise_append.1 i1.2
        have hy := i1.1 y (by simp)
        have hy2 := i2 y (by simp)
        refine ⟨⟨fun z hz => ?_, ?_⟩, fun z hz => ?_, fun n => ?_⟩
        · rcases List.mem_append.1 hz with hz | hz
          · exact i1.1 z (by simp [hz])
          · simp at hz; subst hz; simp only; omega
        · rw [List.pairwise_append]
          refine ⟨hp.1, by simp, fun u hu v hv => ?_⟩
          simp at hv; subst hv
          exact hp.2.2 u hu y (by simp)
        · rcases List.mem_append.1 hz with hz | hz
          · have := i2 z (by simp [hz]); omega
          · simp at hz; subst hz; simp only; omega
        · rw [mem n, List.any_append, List.any_append, Bool.or_eq_true, Bool.or_eq_true]
          simp only [List.any_cons, List.any_nil, Bool.or_false]
          rw [inB_iff, inB_iff]
          simp only
          constructor
          · rintro (h | h)
            · exact Or.inl (Or.inl h)
            · rcases Int.lt_or_le n E with h' | h'
              · exact Or.inl (Or.inr (by omega))
              · exact Or.inr (by omega)
          · rintro ((h | h) | h)
            · exact Or.inl h
            · exact Or.inr (by omega)
            · exact Or.inr (by omega)
      · rw [if_neg hm]
        have hlast : ∀ y ∈ out.toList, y.2 + 1 < E := by
          intro y hy
          have h0 : 0 < out.size := by
            rcases Nat.eq_zero_or_pos out.size with h | h
            · rw [Array.eq_empty_of_size_eq_zero h] at hy; simp at hy
            · exact h
          obtain ⟨l, z, e0, ez, _⟩ := last_list out h0 (0, 0)
          have hz : z.2 + 1 < E := by
            have := i2 z (by rw [e0]; simp)
            have : z.2 + 1 ≠ E := fun h => hm ⟨h0, by rw [ez]; exact h⟩
            omega
          rw [e0] at hy i1
          have hp := List.pairwise_append.1 i1.2
          rcases List.mem_append.1 hy with hy | hy
          · have := hp.2.2 y hy z (by simp)
            have := i1.1 z (by simp)
            omega
          · simp at hy; subst hy; exact hz
        refine ⟨⟨fun z hz => ?_, ?_⟩, fun z hz => ?_, fun n => ?_⟩
        · rw [Array.toList_push] at hz
          rcases List.mem_append.1 hz with hz | hz
          · exact i1.1 z hz
          · simp at hz; subst hz; simp only; omega
        · rw [Array.toList_push, List.pairwise_append]
          refine ⟨i1.2, by simp, fun u hu v hv => ?_⟩
          simp at hv; subst hv
          exact hlast u hu
        · rw [Array.toList_push] at hz
          rcases List.mem_append.1 hz with hz | hz
          · have := i2 z hz; omega
          · simp at hz; subst hz; simp only; omega
        · rw [mem n, inR_push, Bool.or_eq_true, inB_iff]
          simp only
          constructor
          · rintro (h | h)
            · exact Or.inl h
            · exact Or.inr (by omega)
          · rintro (h | h)
            · exact Or.inl h
            · exact Or.inr (by omega)
theorem ofE_isN (a b : Array (Int × Int)) : IsN (pOf a b) (ofE a b) := by
  obtain ⟨h1, _, h3⟩ := ofN_ok a b _ (Nat.le_refl _)
  refine ⟨h1, fun n => ?_⟩
  unfold ofE pOf
  rw [Bool.eq_iff_iff, h3, Bool.and_eq_true, Bool.and_eq_true, may1_iff, Bool.not_eq_true']
  have : bndN (edgesE (a ++ b)) (edgesE (a ++ b)).size = 1000001 := by unfold bndN; rw [if_neg (by omega)]
  rw [this]
  constructor
  · rintro ⟨h, h'⟩; exact ⟨by omega, h'⟩
  · rintro ⟨h, h'⟩; exact ⟨by omega, h'⟩
/-- The document's set, or what was there. -/
def fitE (s was : Array (Int × Int)) : Array (Int × Int) := if s.size ≤ 1000 then s else was
theorem ofE_fit (a b was : Array (Int × Int)) : Fit (pOf a b) was (fitE (ofE a b) was) := ⟨_, ofE_isN a b, rfl⟩
theorem inR_append (a b : Array (Int × Int)) (n : Int) : inR (a ++ b) n = (inR a n || inR b n) := by unfold inR; simp
theorem inR_nil (n : Int) : inR #[] n = false := rfl
theorem inR_one (r : Int × Int) (n : Int) : inR #[r] n = inB_R n r := by simp [inR]
theorem pOf_add (a b : Array (Int × Int)) (n : Int) : pOf (a ++ b) #[] n = pAdd a b n := by unfold pOf pAdd; rw [inR_append, inR_nil, Bool.not_false, Bool.and_true]
theorem pOf_less {d : Array (Int × Int)} (hs : setE_R d = 0) (r : Int × Int) (n : Int) : pOf d #[r] n = pLess d r n := by
  unfold pOf pLess
  rw [inR_one]
  cases h : inR d n
  · simp
  · rw [may1_iff.2 (inR_may (NL.of_set hs) h)]; simp
theorem pOf_gaps (d : Array (Int × Int)) (r : Int × Int) (n : Int) : pOf #[r] d n = pGaps d r n := by unfold pOf pGaps; rw [inR_one]
theorem Fit.set {p : Int → Bool} {was out : Array (Int × Int)} (h : Fit p was out) (hw : setE_R was = 0) : setE_R out = 0 := by
  obtain ⟨s, hs, rfl⟩ := h
  split
  · rename_i h; exact hs.1.set h
  · exact hw
end Go.Proofs.YtgpejfkmdenonaaGreat
namespace Go.Proofs.YtgpejfkmdenonaaGreat
open Go.RowKit Go.Sort Go.Lib

theorem four_new (W : World) (H : Nat) (hH : W.heap.size = H) (p q r s : Value) (t : TypeId) : ∀ j u, [p, q, r, s][j]? = some u → (W.alloc (.cells #[p, q, r, s] t)).cell? ((⟨H, 0, none⟩ : Addr).add j) = some u := by
  intro j u hj
  subst hH
  rw [Addr.add_lit, Nat.zero_add, cell_new]
  rw [← hj]
  simp
theorem own_app2 {w wr w1 : World} {B : Nat} {o o' : Obj} {e : TypeId} {s n : Nat} {v : Value} {xs : List Value} (hb : Below B w wr) (hB : B ≤ wr.heap.size) (hown : wr.ownsRow B e s v n xs) (hg : ((wr.alloc o).alloc o').grownBy w1 v.ownBlock) : Below B w w1 :=
  ((hb.alloc hB o).alloc (by simp; omega) o').grown hg (by simp; omega) (fun k hk => (hown.lt k hk).1)
theorem two_set {W : World} {b : Nat} {p q u v : Value} (h0 : W.cell? ⟨b, 0, none⟩ = some p) (h1 : W.cell? ⟨b, 1, none⟩ = some q) :
    ((W.setCell ⟨b, 0, none⟩ u).setCell ⟨b, 1, none⟩ v).cell? ⟨b, 0, none⟩ = some u ∧ ((W.setCell ⟨b, 0, none⟩ u).setCell ⟨b, 1, none⟩ v).cell? ⟨b, 1, none⟩ = some v := by
  constructor
  · rw [World.cell?_setCell_other]
    · apply World.cell?_setCell_same; exact h0
    · simp
  · apply World.cell?_setCell_same (u := q)
    rw [World.cell?_setCell_other]
    · exact h1
    · simp
set_option maxRecDepth 100000 in
set_option maxHeartbeats 4000000 in
theorem gLess_any (A1 : Option Addr) (c1 : Nat) (d1 : Array (Int × Int)) (r : Int × Int) (w : World) (h1 : RdK encR 2 w.heap.size w A1 d1) :
    Calls Tryz.prog 77 #[.slice A1 d1.size c1, .agg #[.int .i64 r.1, .int .i64 r.2]] w fun e w' => ∃ v out, e = .returned v ∧ (setE_R d1 = 0 → LessOut d1 r out) ∧ (setE_R d1 ≠ 0 → out = #[]) ∧ w'.ownsRow w.heap.size 47 2 v out.size (flatK encR 2 out).toList ∧ Below w.heap.size w w' := by
  have r0 := Lib.hid ((h1.alloc (Nat.le_refl _) (.cells #[.int .i64 r.1, .int .i64 r.2] 47)).mono (show w.heap.size ≤ (w.alloc (.cells #[.int .i64 r.1, .int .i64 r.2] 47)).heap.size by simp))
  by_cases hs : setE_R d1 = 0
  · have hq : (setE_R d1 == 0) = true := by simp [hs]
    have hd1 := (setE_all hs).1
    have HO := Lib.hid (fun r hr => lessN_ok (r := r) hs hr d1.size (Nat.le_refl _))
    have HK := Lib.hid (fun k hk => @ok_at d1 hs k hk)
    have HS := Lib.hid hs
    obtain ⟨i0, hi0, hz0, hz1, hz2⟩ := info_parts range_info
    clear hs
    go_enter Tryz.func77, Tryz.ntmps77
    go_wp2_with fail
    refine (gmay_any _ _ d1 _ r0.out).mono ?_
    rintro e w1 ⟨rfl, hb1⟩
    have cb0 : w1.cell? ⟨w.heap.size, 0, none⟩ = some (.int .i64 r.1) := (hb1.cell (p := ⟨w.heap.size, 0, none⟩) (by simp)).trans (cell_new w #[.int .i64 r.1, .int .i64 r.2] _ 0)
    have cb1 : w1.cell? ⟨w.heap.size, 1, none⟩ = some (.int .i64 r.2) := (hb1.cell (p := ⟨w.heap.size, 1, none⟩) (by simp)).trans (cell_new w #[.int .i64 r.1, .int .i64 r.2] _ 1)
    go_wp2_with fail
    refine (held_any r _).mono ?_
    rintro e w2 ⟨rfl, hb2⟩
    have hw1 : w.heap.size < w1.heap.size := by have := hb1.size; simp at this; omega
    have blk : w2.heap[w.heap.size]? = some (.cells #[.int .i64 r.1, .int .i64 r.2] 47 (0, 0)) := (hb2.block _ hw1).trans ((hb1.block _ (by simp)).trans (heap_alloc_new w _))
    have cc0 : w2.cell? ⟨w.heap.size, 0, none⟩ = some (.int .i64 r.1) := (hb2.cell (p := ⟨w.heap.size, 0, none⟩) hw1).trans cb0
    have cc1 : w2.cell? ⟨w.heap.size, 1, none⟩ = some (.int .i64 r.2) := (hb2.cell (p := ⟨w.heap.size, 1, none⟩) hw1).trans cb1
    have cf0 : w2.frozen? ⟨w.heap.size, 0, none⟩ = false := by simp [World.frozen?, blk]
    have cf1 : w2.frozen? ⟨w.heap.size, 1, none⟩ = false := by simp [World.frozen?, blk]
    have hB2 : Below w.heap.size w w2 := belStep (belStep (bel1 _ _) hb1) hb2
    have HB2 := Lib.hid hB2
    have Z2 : Hid (w.heap.size + 1 ≤ w2.heap.size) := Nat.le_trans hw1 hb2.size
    clear cb0 cb1 blk hb1 hb2
    by_cases hh : (heldR r).2 < (heldR r).1
    · have HL : Hid (∀ out, out = d1 → LessOut d1 r out) := fun out h => by unfold LessOut; rw [if_pos hh]; exact h
      generalize heldR r = q at hh
      have hB3 : Below w.heap.size w ((w2.setCell ⟨w.heap.size, 0, none⟩ (.int .i64 q.1)).setCell ⟨w.heap.size, 1, none⟩ (.int .i64 q.2)) := (HB2.out.setCell (p := ⟨w.heap.size, 0, none⟩) (Nat.le_refl _) _).setCell (p := ⟨w.heap.size, 1, none⟩) (Nat.le_refl _) _
      have HC := Lib.hid (CloneR A1 c1 d1 _ ((h1.below hB3).mono hB3.size) (by omega))
      have HB3 := Lib.hid hB3
      clear hB3
      go_wp2_with fail
      refine HC.out.mono ?_
      rintro e w4 ⟨v, rfl, hown, hb4⟩
      go_wp2
      go_ret
      exact ⟨v, d1, rfl, fun _ => HL.out d1 rfl, fun h => absurd HS.out h, own_mono_R hown HB3.out.size, belStep HB3.out hb4⟩
    · have HL : Hid (∀ out, Formed (lessN d1 (heldR r) d1.size) d1 out → LessOut d1 r out) := fun out h => by unfold LessOut; rw [if_neg hh]; exact h
      have hb : 1 ≤ (heldR r).1 ∧ (heldR r).2 ≤ 1000000 := by unfold heldR; constructor <;> (simp only; omega)
      generalize heldR r = q at hh hb HL
      have hqd : decide (q.2 < q.1) = false := by simp; omega
      have hB3 : Below w.heap.size w ((w2.setCell ⟨w.heap.size, 0, none⟩ (.int .i64 q.1)).setCell ⟨w.heap.size, 1, none⟩ (.int .i64 q.2)) := (HB2.out.setCell (p := ⟨w.heap.size, 0, none⟩) (Nat.le_refl _) _).setCell (p := ⟨w.heap.size, 1, none⟩) (Nat.le_refl _) _
      have hz2 : w.heap.size + 1 ≤ w2.heap.size := by have := HB2.out.size; have := Z2.out; omega
      obtain ⟨q0, q1⟩ := two_set (u := .int .i64 q.1) (v := .int .i64 q.2) cc0 cc1
      have hz3 : w.heap.size + 1 ≤ ((w2.setCell ⟨w.heap.size, 0, none⟩ (.int .i64 q.1)).setCell ⟨w.heap.size, 1, none⟩ (.int .i64 q.2)).heap.size := by simpa [World.setCell] using hz2
      have HQ := Lib.hid hb
      go_wp2
      generalize (w2.setCell ⟨w.heap.size, 0, none⟩ (.int .i64 q.1)).setCell ⟨w.heap.size, 1, none⟩ (.int .i64 q.2) = W3 at hB3 q0 q1 hz3 ⊢
      clear cc0 cc1 cf0 cf1 hB2 hz2 hw1
      go_loopw [5, 22] (fun m i wr => ∃ k : Nat, k ≤ d1.size ∧ i = .int .i64 k ∧ wr.ownsRow (w.heap.size + 1) 47 2 m (lessN d1 q k).size (flatK encR 2 (lessN d1 q k)).toList ∧ Below (w.heap.size + 1) W3 wr) (fun _ i _ => d1.size - (intOf i).toNat)
      case atStart => exact ⟨0, Nat.zero_le _, rfl, nil_ownsK _ _ _ _ _, Below.refl _ _⟩
      case round =>
        obtain ⟨k, hk, rfl, hown, hb⟩ := hrel
        have ms : (lessN d1 q k).size ≤ 2 * k := Nat.le_of_eq (lessN_size d1 q k)
        have hBw : Below w.heap.size w wr := hB3.trans (hb.mono (by omega))
        have hzr : w.heap.size + 1 ≤ wr.heap.size := Nat.le_trans hz3 hb.size
        by_cases hlt : k < d1.size
        · obtain ⟨b, off, rfl, _, f⟩ := (h1.below hBw).at_ hlt
          have f0 := f 0 (by omega)
          have f1 := f 1 (by omega)
          have HX := HK.out k hlt
          have HL : Hid (lessN d1 q (k + 1) = ((lessN d1 q k).push (d1[k]!.1, min d1[k]!.2 (q.1 - 1))).push (max d1[k]!.1 (q.2 + 1), d1[k]!.2)) := rfl
          have hx1 := HX.1
          have hx2 := HX.2.1
          have hx3 := HX.2.2.1
          clear HX
          generalize d1[k]! = x at f0 f1 HL hx1 hx2 hx3
          simp only [Nat.add_zero, encR, List.getElem!_cons_zero, List.getElem!_cons_succ] at f0 f1
          clear f
          generalize lessN d1 q k = m at hown HL ms
          obtain ⟨Am, cm, rfl, _, _⟩ := rdK_of_owns hown
          have g0 : wr.cell? ⟨w.heap.size, 0, none⟩ = some (.int .i64 q.1) := (hb.cell (p := ⟨w.heap.size, 0, none⟩) (by simp)).trans q0
          have g1 : wr.cell? ⟨w.heap.size, 1, none⟩ = some (.int .i64 q.2) := (hb.cell (p := ⟨w.heap.size, 1, none⟩) (by simp)).trans q1
          have c0 : ∀ o, (wr.alloc o).cell? ⟨w.heap.size, 0, none⟩ = some (.int .i64 q.1) := fun o => (World.cell?_alloc_lt wr o ⟨w.heap.size, 0, none⟩ (by show w.heap.size < _; omega)).trans g0
          have c1' : ∀ o, (wr.alloc o).cell? ⟨w.heap.size, 1, none⟩ = some (.int .i64 q.2) := fun o => (World.cell?_alloc_lt wr o ⟨w.heap.size, 1, none⟩ (by show w.heap.size < _; omega)).trans g1
          have hq1 := HQ.out.1
          have hq2 := HQ.out.2
          have kz : (k : Int) < (d1.size : Int) := by omega
          clear q0 q1
          go_wp2_with (at_builtin; refine wpList_append_own _ rfl _ _ 22 rfl (w.heap.size + 1) 47 i0 (.agg #[.int .i64 0, .int .i64 0]) 2 16 Tryz.underlying22 hi0 hz0 hz1 hz2 rfl (by decide) _ _ _ rfl ((hown.alloc _).alloc _) ⟨wr.heap.size + 1, 0, none⟩ 2 2 [.int .i64 x.1, .int .i64 (min x.2 (q.1 - 1)), .int .i64 (max x.1 (q.2 + 1)), .int .i64 x.2] rfl rfl (four_new (wr.alloc _) _ (by simp) _ _ _ _ _) (by simp [Value.oneCell']) (by unfold maxLen; omega) (by omega) (by simp; omega) ?_; intro v' w4 hown' hgrow _)
          exact ⟨⟨k + 1, by omega, by go_num, (by rw [HL.out, Array.size_push, Array.size_push, flatK_push encR_len, flatK_push encR_len, List.append_assoc]; exact hown'), own_app2 hb hzr hown hgrow⟩, by simp [intOf]; omega⟩
        · obtain rfl : k = d1.size := by omega
          have HR := Lib.hid (HO.out q (by have := HQ.out; omega))
          generalize hm : lessN d1 q d1.size = m at hown HR ms
          have HE := Lib.hid hm
          clear hm
          obtain ⟨Am, cm, rfl, hrm, _⟩ := rdK_of_owns hown
          have HF := Lib.hid (form_any Am cm m A1 c1 d1 wr hrm ((h1.below hBw).mono hBw.size) (by omega) (by omega) HR.out)
          have HBW := Lib.hid hBw
          clear q0 q1
          go_wp2_with fail
          refine HF.out.mono ?_
          rintro e w5 ⟨d', v, out, rfl, hS, ho, hown5, hb5⟩
          have HX : Hid (Formed m d1 out) := ⟨d', hS, ho⟩
          clear hS ho
          go_wp2
          go_ret
          exact ⟨_, out, rfl, fun _ => HL.out out (by rw [HE.out]; exact HX.out), fun h => absurd HS.out h, own_mono_R hown5 HBW.out.size, belStep HBW.out hb5⟩
  · have hq : (setE_R d1 == 0) = false := by simpa using hs
    have HS := Lib.hid hs
    clear hs
    go_enter Tryz.func77, Tryz.ntmps77
    go_wp2_with fail
    refine (gmay_any _ _ d1 _ r0.out).mono ?_
    rintro e w1 ⟨rfl, hb1⟩
    go_wp2
    go_ret
    exact ⟨_, #[], rfl, fun h => absurd h HS.out, fun _ => rfl, nil_ownsK _ _ _ _ _, belStep (bel1 _ _) hb1⟩
theorem gCut_any (A1 : Option Addr) (c1 : Nat) (d1 : Array (Int × Int)) (n : Int) (w : World) (h1 : RdK encR 2 w.heap.size w A1 d1) :
    Calls Tryz.prog 62 #[.slice A1 d1.size c1, .int .i64 n] w fun e w' => ∃ v out, e = .returned v ∧ (setE_R d1 = 0 → LessOut d1 (1, n) out) ∧ (setE_R d1 ≠ 0 → out = #[]) ∧ w'.ownsRow w.heap.size 47 2 v out.size (flatK encR 2 out).toList ∧ Below w.heap.size w w' := by
  have H := Lib.hid (gLess_any A1 c1 d1 (1, n) w h1)
  go_enter Tryz.func62, Tryz.ntmps62
  go_wp2_with fail
  refine H.out.mono ?_
  rintro e w1 ⟨v, out, rfl, ho1, ho2, hown, hb⟩
  have HO1 := Lib.hid ho1
  have HO2 := Lib.hid ho2
  clear ho1 ho2
  go_wp2
  go_ret
  exact ⟨v, out, rfl, HO1.out, HO2.out, hown, hb⟩
end Go.Proofs.YtgpejfkmdenonaaGreat
namespace Go.Proofs.YtgpejfkmdenonaaGreat
open Go.RowKit Go.Sort Go.Lib

theorem own_heap {w w' : World} {base : Nat} {e : TypeId} {size : Nat} {v : Value} {n : Nat} {xs : List Value} (h : w.ownsRow base e size v n xs) (hb : ∀ g, base ≤ g → g < w.heap.size → w'.heap[g]? = w.heap[g]?) : w'.ownsRow base e size v n xs :=
  ⟨h.1, h.2.imp id fun ⟨g, cap, cur, q1, q2, q3, q4⟩ => ⟨g, cap, cur, q1, q2, (hb g q2 (Array.getElem?_eq_some_iff.1 q3).1).trans q3, q4⟩⟩
theorem blk_set {W : World} {B : Nat} {a c u : Value} {t : TypeId} (h : W.heap[B]? = some (.cells #[a, c] t (0, 0))) : (W.setCell ⟨B, 0, none⟩ u).heap[B]? = some (.cells #[u, c] t (0, 0)) := by
  simp [World.setCell, Array.getElem?_modify, h]
theorem blk_cells {W : World} {B : Nat} {a c : Value} {t : TypeId} (h : W.heap[B]? = some (.cells #[a, c] t (0, 0))) : W.cell? ⟨B, 0, none⟩ = some a ∧ W.cell? ⟨B, 1, none⟩ = some c ∧ W.frozen? ⟨B, 0, none⟩ = false := by
  simp [World.cell?, World.frozen?, h]
theorem blk_alloc {W : World} {B : Nat} {o o' : Obj} (h : W.heap[B]? = some o) : (W.alloc o').heap[B]? = some o :=
  (Below.heap_alloc W o' B (by have := (Array.getElem?_eq_some_iff.1 h).1; omega)).trans h
theorem two_newH (W : World) (H : Nat) (hH : W.heap.size = H) (p q : Value) (t : TypeId) : ∀ j u, [p, q][j]? = some u → (W.alloc (.cells #[p, q] t)).cell? ((⟨H, 0, none⟩ : Addr).add j) = some u := by subst hH; exact two_new_R W p q t
def GapsOut (d : Array (Int × Int)) (r : Int × Int) (out : Array (Int × Int)) : Prop := Formed (gapsE d (heldR r)) #[] out
theorem gapsN_succ (d : Array (Int × Int)) (lo hi : Int) (k : Nat) : gapsN d lo hi (k + 1) = if d[k]!.2 < (gapsN d lo hi k).2 then gapsN d lo hi k else
      ((if (gapsN d lo hi k).2 ≤ min (d[k]!.1 - 1) hi then (gapsN d lo hi k).1.push ((gapsN d lo hi k).2, min (d[k]!.1 - 1) hi) else (gapsN d lo hi k).1), max (gapsN d lo hi k).2 (d[k]!.2 + 1)) := rfl
end Go.Proofs.YtgpejfkmdenonaaGreat
