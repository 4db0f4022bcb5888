/- What the document's union of ranges, ranges without a number, and commands that are open come to. The document's union of ranges. -/
import Derived.Test.YtgpejfkmdenonaaGreatQKnM
import Derived.Test.YtgpejfkmdenonaaGreatQSrJ
namespace Go.Proofs.YtgpejfkmdenonaaGreat
open Go.RowKit Go.Sort Go.Lib
/-- o is the ranges among the first m of d that are not empty, as they begin. -/
structure InsU (d : Array (Int × Int)) (m : Nat) (o : Array (Int × Int)) : Prop where
  up : o.toList.Pairwise fun x y => x.1 ≤ y.1
  mem : ∀ x, x ∈ o.toList ↔ x ∈ d.toList.take m ∧ x.1 ≤ x.2
  sz : o.size ≤ m
theorem InsU.nil (d : Array (Int × Int)) : InsU d 0 #[] := ⟨by simp, by simp, Nat.le_refl _⟩
theorem take_snoc_U {d : Array (Int × Int)} {m : Nat} (hm : m < d.size) : d.toList.take (m + 1) = d.toList.take m ++ [d[m]!] := by
  rw [List.take_add_one]
  simp [hm]
theorem InsU.skip {d o : Array (Int × Int)} {m : Nat} (h : InsU d m o) (hm : m < d.size) (hx : d[m]!.2 < d[m]!.1) : InsU d (m + 1) o := by
  refine ⟨h.up, fun x => ?_, by have := h.sz; omega⟩
  rw [h.mem, take_snoc_U hm, List.mem_append, List.mem_singleton]
  constructor
  · rintro ⟨h1, h2⟩
    exact ⟨Or.inl h1, h2⟩
  · rintro ⟨h1 | rfl, h2⟩
    · exact ⟨h1, h2⟩
    · omega
theorem InsU.put {d o : Array (Int × Int)} {m k : Nat} (h : InsU d m o) (hm : m < d.size) (hx : d[m]!.1 ≤ d[m]!.2) (hk : k ≤ o.size) (h1 : ∀ j, j < k → o[j]!.1 ≤ d[m]!.1) (h2 : k < o.size → d[m]!.1 < o[k]!.1) :
    InsU d (m + 1) (#[] ++ (o.toList.take k).toArray ++ #[d[m]!] ++ (o.toList.drop k).toArray) := by
  have e : (#[] ++ (o.toList.take k).toArray ++ #[d[m]!] ++ (o.toList.drop k).toArray).toList = o.toList.take k ++ d[m]! :: o.toList.drop k := by simp
  refine ⟨?_, fun x => ?_, ?_⟩
  · rw [e]
    have hp := h.up
    rw [← List.take_append_drop k o.toList] at hp
    obtain ⟨p1, p2, p3⟩ := List.pairwise_append.1 hp
    have t1 : ∀ y ∈ o.toList.take k, y.1 ≤ d[m]!.1 := fun y hy => by
      obtain ⟨j, hj, rfl⟩ := List.mem_take_iff_getElem.1 hy
      have hj' : j < o.size := by simp at hj; omega
      have := h1 j (by simp at hj; omega)
      rw [getElem!_pos o j hj'] at this
      simpa using this
    have t2 : ∀ y ∈ o.toList.drop k, d[m]!.1 ≤ y.1 := fun y hy => by
      rcases Nat.lt_or_ge k o.size with hlt | hge
      · have hk' : k < o.toList.length := by simpa using hlt
        rw [List.drop_eq_getElem_cons hk'] at hy p2
        have hk2 := h2 hlt
        rw [getElem!_pos o k (by omega)] at hk2
        rcases List.mem_cons.1 hy with rfl | hy
        · exact Int.le_of_lt (by simpa using hk2)
        · have a1 := (List.pairwise_cons.1 p2).1 y hy
          have a2 : d[m]!.1 < (o.toList[k]).1 := by simpa using hk2
          omega
      · rw [List.drop_of_length_le (by simpa using hge)] at hy
        cases hy
    refine List.pairwise_append.2 ⟨p1, List.pairwise_cons.2 ⟨t2, p2⟩, fun y hy z hz => ?_⟩
    rcases List.mem_cons.1 hz with rfl | hz
    · exact t1 y hy
    · exact p3 y hy z hz
  · rw [e, take_snoc_U hm, List.mem_append, List.mem_cons, List.mem_append, List.mem_singleton]
    have hs : x ∈ o.toList ↔ x ∈ o.toList.take k ∨ x ∈ o.toList.drop k := by rw [← List.mem_append, List.take_append_drop]
    have hm' := h.mem x
    rw [hs] at hm'
    constructor
    · rintro (a | rfl | a)
      · exact ⟨Or.inl (hm'.1 (Or.inl a)).1, (hm'.1 (Or.inl a)).2⟩
      · exact ⟨Or.inr rfl, hx⟩
      · exact ⟨Or.inl (hm'.1 (Or.inr a)).1, (hm'.1 (Or.inr a)).2⟩
    · rintro ⟨a | rfl, b⟩
      · rcases hm'.2 ⟨a, b⟩ with c | c
        · exact Or.inl c
        · exact Or.inr (Or.inr c)
      · exact Or.inr (Or.inl rfl)
  · have := h.sz
    simp
    omega
theorem InsU.fin {d o : Array (Int × Int)} (h : InsU d d.size o) (hv : ∀ x ∈ d.toList, x.1 ≤ x.2 → 1 ≤ x.1 ∧ x.2 ≤ 1000000) : IsN (inR d) (formF o.toList) ∧ (formF o.toList).size ≤ d.size := by
  have hm : ∀ x, x ∈ o.toList ↔ x ∈ d.toList ∧ x.1 ≤ x.2 := fun x => by
    have := h.mem x
    rwa [List.take_of_length_le (by simp)] at this
  have := foldF_ok o.toList #[] ⟨by simp, by simp⟩ (fun x hx => by
    obtain ⟨h1, h2⟩ := (hm x).1 hx
    have := hv x h1 h2
    omega) h.up (by simp)
  refine ⟨⟨this.1, fun n => ?_⟩, ?_⟩
  · show inR (List.foldl addF #[] o.toList) n = _
    rw [this.2 n]
    have e0 : inR #[] n = false := rfl
    rw [e0, Bool.false_or, Bool.eq_iff_iff, inL_iff, inR_iff]
    constructor
    · rintro ⟨x, hx, h1⟩
      exact ⟨x, ((hm x).1 hx).1, h1⟩
    · rintro ⟨x, hx, h1, h2⟩
      exact ⟨x, (hm x).2 ⟨hx, by omega⟩, h1, h2⟩
  · have h1 := foldF_size o.toList #[]
    have h2 := h.sz
    unfold formF
    simp at h1 ⊢
    omega
/-- A range without a number. -/
def wo1 (n : Int) (r : Int × Int) : List (Int × Int) :=
  if n < r.1 ∨ r.2 < n then (if r.1 ≤ r.2 then [r] else []) else (if r.1 < n then [(r.1, n - 1)] else []) ++ (if n < r.2 then [(n + 1, r.2)] else [])
def woL (n : Int) (l : List (Int × Int)) : List (Int × Int) := l.flatMap (wo1 n)
theorem wo1_in (n m : Int) (r : Int × Int) : (wo1 n r).any (inB_R m) = true ↔ (r.1 ≤ m ∧ m ≤ r.2) ∧ m ≠ n := by
  rw [inL_iff]
  unfold wo1
  constructor
  · rintro ⟨x, hx, h1, h2⟩
    split at hx
    · split at hx
      · obtain rfl := List.mem_singleton.1 hx
        omega
      · cases hx
    · rcases List.mem_append.1 hx with hx | hx
      · split at hx
        · obtain rfl := List.mem_singleton.1 hx
          simp only at h1 h2
          omega
        · cases hx
      · split at hx
        · obtain rfl := List.mem_singleton.1 hx
          simp only at h1 h2
          omega
        · cases hx
  · rintro ⟨⟨h1, h2⟩, h3⟩
    by_cases c : n < r.1 ∨ r.2 < n
    · rw [if_pos c, if_pos (by omega)]
      exact ⟨r, by simp, h1, h2⟩
    · rw [if_neg c]
      rcases Int.lt_or_gt_of_ne h3 with g | g
      · exact ⟨(r.1, n - 1), by rw [if_pos (by omega)]; simp, h1, by simp only; omega⟩
      · exact ⟨(n + 1, r.2), by rw [if_pos (show n < r.2 by omega)]; simp, by simp only; omega, h2⟩
theorem wo1_sub {n : Int} {r x : Int × Int} (hx : x ∈ wo1 n r) : r.1 ≤ x.1 ∧ x.2 ≤ r.2 := by
  unfold wo1 at hx
  split at hx
  · split at hx
    · obtain rfl := List.mem_singleton.1 hx
      omega
    · cases hx
  · rcases List.mem_append.1 hx with hx | hx
    · split at hx
      · obtain rfl := List.mem_singleton.1 hx
        simp only
        omega
      · cases hx
    · split at hx
      · obtain rfl := List.mem_singleton.1 hx
        simp only
        omega
      · cases hx
theorem wo1_ris (n : Int) (r : Int × Int) : (wo1 n r).Pairwise (fun x y => x.2 < y.1) := by
  unfold wo1
  split
  · split <;> simp
  · split <;> split <;> simp
    omega
theorem wo1_len (n : Int) (r : Int × Int) : (wo1 n r).length ≤ 2 ∧ (n < r.1 ∨ r.2 < n → (wo1 n r).length ≤ 1) := by
  unfold wo1
  refine ⟨?_, fun h => ?_⟩
  · split
    · split <;> simp
    · split <;> split <;> simp
  · rw [if_pos h]
    split <;> simp
theorem woL_in (n m : Int) (l : List (Int × Int)) : (woL n l).any (inB_R m) = true ↔ l.any (inB_R m) = true ∧ m ≠ n := by
  induction l with
  | nil => simp [woL]
  | cons r l ih =>
    have e : woL n (r :: l) = wo1 n r ++ woL n l := by simp [woL]
    rw [e, List.any_append, Bool.or_eq_true, wo1_in, ih, any_cons]
    constructor
    · rintro (⟨h1, h2⟩ | ⟨h1, h2⟩)
      · exact ⟨Or.inl h1, h2⟩
      · exact ⟨Or.inr h1, h2⟩
    · rintro ⟨h1 | h1, h2⟩
      · exact Or.inl ⟨h1, h2⟩
      · exact Or.inr ⟨h1, h2⟩
theorem woL_sub {n : Int} {l : List (Int × Int)} {x : Int × Int} (hx : x ∈ woL n l) : ∃ r ∈ l, r.1 ≤ x.1 ∧ x.2 ≤ r.2 := by
  obtain ⟨r, hr, h⟩ := List.mem_flatMap.1 hx
  exact ⟨r, hr, wo1_sub h⟩
theorem woL_ris (n : Int) : ∀ {l : List (Int × Int)}, l.Pairwise (fun x y => x.2 < y.1) → (woL n l).Pairwise (fun x y => x.2 < y.1)
  | [], _ => by simp [woL]
  | r :: l, h => by
    obtain ⟨h1, h2⟩ := List.pairwise_cons.1 h
    have e : woL n (r :: l) = wo1 n r ++ woL n l := by simp [woL]
    rw [e]
    refine List.pairwise_append.2 ⟨wo1_ris n r, woL_ris n h2, fun x hx y hy => ?_⟩
    have a := wo1_sub hx
    obtain ⟨z, hz, b⟩ := woL_sub hy
    have := h1 z hz
    omega
theorem woL_few (n : Int) : ∀ {l : List (Int × Int)}, (∀ x ∈ l, n < x.1) → (woL n l).length ≤ l.length
  | [], _ => by simp [woL]
  | r :: l, h => by
    have e : woL n (r :: l) = wo1 n r ++ woL n l := by simp [woL]
    have a := (wo1_len n r).2 (Or.inl (h r (by simp)))
    have b := woL_few n (l := l) fun x hx => h x (by simp [hx])
    rw [e, List.length_append, List.length_cons]
    omega
theorem woL_len (n : Int) : ∀ {l : List (Int × Int)}, l.Pairwise (fun x y => x.2 < y.1) → (woL n l).length ≤ l.length + 1
  | [], _ => by simp [woL]
  | r :: l, h => by
    obtain ⟨h1, h2⟩ := List.pairwise_cons.1 h
    have e : woL n (r :: l) = wo1 n r ++ woL n l := by simp [woL]
    have a := wo1_len n r
    rw [e, List.length_append, List.length_cons]
    by_cases c : n < r.1 ∨ r.2 < n
    · have := a.2 c
      have := woL_len n h2
      omega
    · have := woL_few n (l := l) fun x hx => by have := h1 x hx; omega
      omega
def woN (ts : List Int) (l : List (Int × Int)) : List (Int × Int) := ts.foldl (fun l t => woL t l) l
theorem woN_snoc (ts : List Int) (t : Int) (l : List (Int × Int)) : woN (ts ++ [t]) l = woL t (woN ts l) := by unfold woN; simp
theorem woN_ok : ∀ (ts : List Int) {l : List (Int × Int)}, l.Pairwise (fun x y => x.2 < y.1) → (woN ts l).Pairwise (fun x y => x.2 < y.1) ∧ (woN ts l).length ≤ l.length + ts.length ∧ ∀ m, (woN ts l).any (inB_R m) = true ↔ l.any (inB_R m) = true ∧ m ∉ ts
  | [], l, h => ⟨h, by simp [woN], fun m => by simp [woN]⟩
  | t :: ts, l, h => by
    obtain ⟨a, b, c⟩ := woN_ok ts (woL_ris t h)
    have d := woL_len t h
    refine ⟨a, ?_, fun m => ?_⟩
    · show (woN ts (woL t l)).length ≤ _
      rw [List.length_cons]
      omega
    · show (woN ts (woL t l)).any (inB_R m) = true ↔ _
      rw [c, woL_in, List.mem_cons, not_or, and_assoc]
/-- What is told, without the times of commands. -/
def toldK (k : KN) (lo hi : Int) (ts : List Int) : Array (Int × Int) := (woN ts [(max lo k.base + 1, hi)]).toArray
theorem toldK_size (k : KN) (lo hi : Int) (ts : List Int) : (toldK k lo hi ts).size ≤ ts.length + 1 := by
  have := (woN_ok ts (l := [(max lo k.base + 1, hi)]) (by simp)).2.1
  unfold toldK
  simp at this ⊢
  omega
theorem toldK_in (k : KN) (lo hi : Int) (ts : List Int) (m : Int) : inR (toldK k lo hi ts) m = true ↔ (max lo k.base < m ∧ m ≤ hi) ∧ m ∉ ts := by
  have := (woN_ok ts (l := [(max lo k.base + 1, hi)]) (by simp)).2.2 m
  unfold toldK inR
  rw [this]
  simp [inB_R]
  omega
theorem toldK_ok {k : KN} {lo hi : Int} {ts : List Int} (h0 : 0 ≤ k.base) (h1 : hi ≤ 1000000) : ∀ x ∈ (toldK k lo hi ts).toList, x.1 ≤ x.2 → 1 ≤ x.1 ∧ x.2 ≤ 1000000 := fun x hx hle => by
  have a := (toldK_in k lo hi ts x.1).1 (inR_iff.2 ⟨x, hx, Int.le_refl _, hle⟩)
  have b := (toldK_in k lo hi ts x.2).1 (inR_iff.2 ⟨x, hx, hle, Int.le_refl _⟩)
  omega
/-- The times that are told, and those that were. -/
def holesK (k : KN) (atts : Array (Int × Int)) : List Int := timesL atts.toList ++ timesL k.ats.toList
theorem uni_add {k : KN} {lo hi : Int} {atts : Array (Int × Int)} (m : Int) : inR (k.rs ++ toldK k lo hi (holesK k atts)) m = pK k lo hi atts m := by
  rw [inR_append, Bool.eq_iff_iff, Bool.or_eq_true, toldK_in, pK_iff]
  unfold holesK
  rw [List.mem_append, not_or]
theorem uni_add_ok {k : KN} {lo hi : Int} {atts : Array (Int × Int)} (h : AddA k lo hi atts) : ∀ x ∈ (k.rs ++ toldK k lo hi (holesK k atts)).toList, x.1 ≤ x.2 → 1 ≤ x.1 ∧ x.2 ≤ 1000000 := fun x hx hle => by
  rw [Array.toList_append, List.mem_append] at hx
  rcases hx with hx | hx
  · have := (NL.of_set h.chk.rs).1 x hx
    omega
  · exact toldK_ok h.chk.b0 h.hi1 x hx hle
theorem setlK_in {k : KN} {ids : Array Int} {m : Int} : inR (setlK k ids) m = true ↔ ∃ a ∈ k.ats.toList, a.2 ∈ ids.toList ∧ a.1 = m := by
  unfold setlK
  rw [inR_iff]
  constructor
  · rintro ⟨x, hx, h1, h2⟩
    obtain ⟨a, ha, rfl⟩ := List.mem_map.1 (show x ∈ List.map (fun a : Int × Int => (a.1, a.1)) (k.ats.toList.filter (doneK ids)) from hx)
    obtain ⟨h3, h4⟩ := List.mem_filter.1 ha
    simp only at h1 h2
    exact ⟨a, h3, by unfold doneK at h4; exact List.contains_iff_mem.1 h4, by omega⟩
  · rintro ⟨a, ha, h1, rfl⟩
    refine ⟨(a.1, a.1), ?_, Int.le_refl _, Int.le_refl _⟩
    simp only [List.mem_map]
    exact ⟨a, List.mem_filter.2 ⟨ha, by unfold doneK; exact List.contains_iff_mem.2 h1⟩, rfl⟩
theorem uni_set {k : KN} {ids : Array Int} (m : Int) : inR (k.rs ++ setlK k ids) m = pS k ids m := by
  rw [inR_append, Bool.eq_iff_iff, Bool.or_eq_true, setlK_in, pS_iff]
theorem uni_set_ok {k : KN} {ids : Array Int} (h : ChkP k) : ∀ x ∈ (k.rs ++ setlK k ids).toList, x.1 ≤ x.2 → 1 ≤ x.1 ∧ x.2 ≤ 1000000 := fun x hx _ => by
  rw [Array.toList_append, List.mem_append] at hx
  rcases hx with hx | hx
  · have := (NL.of_set h.rs).1 x hx
    omega
  · unfold setlK at hx
    obtain ⟨a, ha, rfl⟩ := List.mem_map.1 (show x ∈ List.map (fun a : Int × Int => (a.1, a.1)) (k.ats.toList.filter (doneK ids)) from hx)
    have := ((riseL_iff _ _ _).1 h.up).2 a (List.mem_filter.1 ha).1
    have := h.b0
    simp only
    omega
/-- The commands that are open, each in its place. -/
def opN (l : List (Int × Int)) : List Int := l.foldl (fun o a => putL a.2 o) []
theorem opN_snoc (l : List (Int × Int)) (a : Int × Int) : opN (l ++ [a]) = putL a.2 (opN l) := by unfold opN; simp
theorem opN_ok (l : List (Int × Int)) : (opN l).Pairwise (· < ·) ∧ ∀ x, x ∈ opN l ↔ x ∈ l.map (·.2) := by
  have main : ∀ (l : List (Int × Int)) (o : List Int), o.Pairwise (· < ·) → (l.foldl (fun o a => putL a.2 o) o).Pairwise (· < ·) ∧ ∀ x, x ∈ l.foldl (fun o a => putL a.2 o) o ↔ x ∈ o ∨ x ∈ l.map (·.2) := by
    intro l
    induction l with
    | nil => intro o h; exact ⟨h, fun x => by simp⟩
    | cons a l ih =>
      intro o h
      obtain ⟨p, q⟩ := ih (putL a.2 o) (putL_sorted _ _ h)
      refine ⟨p, fun x => ?_⟩
      rw [List.foldl_cons, q, putL_mem]
      simp only [List.map_cons, List.mem_cons]
      constructor
      · rintro ((h | h) | h)
        · exact Or.inr (Or.inl h)
        · exact Or.inl h
        · exact Or.inr (Or.inr h)
      · rintro (h | h | h)
        · exact Or.inl (Or.inr h)
        · exact Or.inl (Or.inl h)
        · exact Or.inr h
  obtain ⟨p, q⟩ := main l [] (by simp)
  exact ⟨p, fun x => by have := q x; simpa [opN] using this⟩
theorem opN_len (l : List (Int × Int)) : (opN l).length ≤ l.length := by
  have main : ∀ (l : List (Int × Int)) (o : List Int), (l.foldl (fun o a => putL a.2 o) o).length ≤ o.length + l.length := by
    intro l
    induction l with
    | nil => intro o; simp
    | cons a l ih =>
      intro o
      have h1 := ih (putL a.2 o)
      have h2 := putL_len a.2 o
      rw [List.foldl_cons, List.length_cons]
      omega
  have := main l []
  simpa [opN] using this
theorem opN_open {k : KN} (h : chkB k = true) : OpenR k (opN k.ats.toList).toArray := ⟨by simpa using (opN_ok k.ats.toList).1, fun x => by rw [h]; simpa using (opN_ok k.ats.toList).2 x⟩
theorem open_bad {k : KN} (h : chkB k = false) : OpenR k #[] := ⟨by simp, fun x => by rw [h]; simp⟩
end Go.Proofs.YtgpejfkmdenonaaGreat
namespace Go.Proofs.YtgpejfkmdenonaaGreat
open Go.RowKit Go.Sort Go.Lib
theorem set_self_U (d : Array (Int × Int)) (k : Nat) : d.set! k d[k]! = d := by
  refine Array.ext (by simp) fun i h1 h2 => ?_
  by_cases e : k = i
  · subst e
    simp [h2]
  · have := set_other_R d k i d[k]! (Ne.symm e)
    rw [getElem!_pos _ i h1, getElem!_pos d i h2] at this
    exact this
theorem addF_join {out : Array (Int × Int)} {x : Int × Int} (h0 : 0 < out.size) (h1 : x.1 ≤ out[out.size - 1]!.2 + 1) (h2 : out[out.size - 1]!.2 < x.2) : addF out x = out.set! (out.size - 1) (out[out.size - 1]!.1, x.2) := by
  unfold addF
  rw [if_pos ⟨h0, h1⟩, show max out[out.size - 1]!.2 x.2 = x.2 by omega]
theorem addF_in {out : Array (Int × Int)} {x : Int × Int} (h0 : 0 < out.size) (h1 : x.1 ≤ out[out.size - 1]!.2 + 1) (h2 : ¬ out[out.size - 1]!.2 < x.2) : addF out x = out := by
  unfold addF
  rw [if_pos ⟨h0, h1⟩, show max out[out.size - 1]!.2 x.2 = out[out.size - 1]!.2 by omega]
  exact set_self_U out _
theorem addU_push {out : Array (Int × Int)} {x : Int × Int} (h : ¬ (0 < out.size ∧ x.1 ≤ out[out.size - 1]!.2 + 1)) : addF out x = out.push x := by
  unfold addF
  rw [if_neg h]
theorem foldU {d o : Array (Int × Int)} (h : InsU d d.size o) (hv : ∀ x ∈ d.toList, x.1 ≤ x.2 → 1 ≤ x.1 ∧ x.2 ≤ 1000000) (j : Nat) : NL ((o.toList.take j).foldl addF #[]).toList := by
  refine (foldF_ok (o.toList.take j) #[] ⟨by simp, by simp⟩ (fun x hx => ?_) (h.up.sublist (List.take_sublist _ _)) (by simp)).1
  have hm := (h.mem x).1 (List.mem_of_mem_take hx)
  rw [List.take_of_length_le (by simp)] at hm
  have := hv x hm.1 hm.2
  omega
theorem foldU_succ {o : Array (Int × Int)} {j : Nat} (hj : j < o.size) : (o.toList.take (j + 1)).foldl addF #[] = addF ((o.toList.take j).foldl addF #[]) o[j]! := by
  rw [take_snoc_U hj, List.foldl_append]
  rfl
attribute [local go_sem ↓] Go.wp_at_zero Go.wp_at_succ
set_option maxRecDepth 100000 in
set_option maxHeartbeats 16000000 in
theorem uni_any (A1 : Option Addr) (c1 : Nat) (d1 : Array (Int × Int)) (A2 : Option Addr) (c2 : Nat) (d2 : Array (Int × Int)) (w : World) (h1 : RdK encR 2 w.heap.size w A1 d1) (h2 : RdK encR 2 w.heap.size w A2 d2) (n1 : A1 = none → c1 = 0) (n2 : A2 = none → c2 = 0) (hd : d1.size + d2.size ≤ 100000)
    (hv : ∀ x ∈ (d1 ++ d2).toList, x.1 ≤ x.2 → 1 ≤ x.1 ∧ x.2 ≤ 1000000) :
    Calls Tryz.prog 35 #[.slice A1 d1.size c1, .slice A2 d2.size c2] w fun e w' => ∃ v out, e = .returned v ∧ IsN (inR (d1 ++ d2)) out ∧ out.size ≤ d1.size + d2.size ∧ w'.ownsRow w.heap.size 47 2 v out.size (flatK encR 2 out).toList ∧ Below w.heap.size w w' := by
  obtain ⟨i0, hi0, hz0, hz1, hz2⟩ := info_parts range_info
  have HE0 := Lib.hid (empty_ownsK w 47 encR 2)
  have HN1 := Lib.hid n1
  have HN2 := Lib.hid n2
  have HV := Lib.hid hv
  clear n1 n2 hv
  go_enter Tryz.func35, Tryz.ntmps35
  go_wp2_with (first
    | (at_builtin; refine append_rdK encR_one encR_len (by decide) rfl _ _ 22 rfl w.heap.size 47 i0 (.agg #[.int .i64 0, .int .i64 0]) 16 Tryz.underlying22 hi0 hz0 hz1 hz2 rfl _ #[] rfl HE0.out w.heap.size A1 c1 d1 rfl (h1.alloc (Nat.le_refl _) _) HN1.out (by simp; omega) (by decide) (by simp) ?_; intro v1 w1 hown1 hg1 _; have hB1 : Below w.heap.size w w1 := (bel1 w _).grown hg1 (by simp) (fun k hk => (HE0.out.lt k hk).1))
    | (at_builtin; refine append_rdK encR_one encR_len (by decide) rfl _ _ 22 rfl w.heap.size 47 i0 (.agg #[.int .i64 0, .int .i64 0]) 16 Tryz.underlying22 hi0 hz0 hz1 hz2 rfl v1 (#[] ++ d1) rfl hown1 w.heap.size A2 c2 d2 rfl (h2.below hB1) HN2.out (by simp; omega) (by decide) hB1.size ?_; intro v2 w0 hown2 hg2 _; have hB2 : Below w.heap.size w w0 := hB1.grown hg2 hB1.size (fun k hk => (hown1.lt k hk).1); obtain ⟨A3, c3, rfl, hr3, _⟩ := rdK_of_owns hown2))
  have e12 : #[] ++ d1 ++ d2 = d1 ++ d2 := by simp
  rw [e12] at hr3
  have hsz : d1.size + d2.size = (d1 ++ d2).size := by simp
  obtain ⟨d, hdd⟩ : ∃ d, d1 ++ d2 = d := ⟨_, rfl⟩
  rw [hdd] at hr3 hsz HV
  rw [hsz] at hd ⊢
  have HDD := Lib.hid hdd
  have HDZ := Lib.hid hsz
  clear hdd
  have HR := Lib.hid hr3
  have HB0 := Lib.hid hB2
  clear hr3 hB2 e12 hsz hown1 hown2 hg1 hg2 hB1 HE0 HN1 HN2 h1 h2
  go_loopw [5, 7] (fun v i wr => ∃ (m : Nat) (oo : Array (Int × Int)), i = .int .i64 m ∧ m ≤ d.size ∧ wr.ownsRow w0.heap.size 47 2 v oo.size (flatK encA_I 2 oo).toList ∧ InsU d m oo ∧ Below w0.heap.size w0 wr) (fun _ i _ => d.size - (intOf i).toNat)
  case atStart => exact ⟨0, #[], rfl, Nat.zero_le _, nil_ownsK _ _ _ _ _, InsU.nil d, Below.refl _ _⟩
  case round =>
    obtain ⟨m, oo, rfl, hm, hown, hI, hB⟩ := hrel
    have hsm := hI.sz
    have HI := Lib.hid hI
    clear hI
    by_cases hlt : m < d.size
    · obtain ⟨b, off, rfl, hbl, hcc⟩ := (HR.out.below hB).at_ hlt
      have x0 := hcc 0 (by decide)
      have x1 := hcc 1 (by decide)
      clear hcc
      obtain ⟨x, hx⟩ : ∃ x, d[m]! = x := ⟨_, rfl⟩
      rw [hx] at x0 x1
      simp only [Nat.add_zero, encR, List.getElem!_cons_zero, List.getElem!_cons_succ] at x0 x1
      have HX2 := Lib.hid hx
      clear hx
      have kz : (m : Int) < (d.size : Int) := by omega
      by_cases hle : x.2 < x.1
      · have hle' : decide (x.2 < x.1) = true := decide_eq_true hle
        have HSK : Hid (InsU d (m + 1) oo) := HI.out.skip hlt (by rw [HX2.out]; exact hle)
        clear hle
        go_wp2_with fail
        go_quiet (fail)
        go_wp2_with fail
        exact ⟨⟨m + 1, oo, by go_num, by omega, hown, HSK.out, belDrewN hB nq⟩, by simp [intOf]; omega⟩
      · have hle' : decide (x.2 < x.1) = false := decide_eq_false hle
        have HLE := Lib.hid (Int.not_lt.1 hle)
        clear hle
        go_wp2_with fail
        go_quiet (fail)
        obtain ⟨s, hs⟩ : ∃ s, oo.size = s := ⟨_, rfl⟩
        rw [hs] at hown hsm
        have HSZ := Lib.hid hs
        clear hs
        have hsd : s ≤ 100000 := by omega
        have hownq : (wr.drewN nq).ownsRow w0.heap.size 47 2 u5 s (flatK encA_I 2 oo).toList := hown
        obtain ⟨w2, HW2⟩ : ∃ W, Hid (W = wr.drewN nq) := ⟨_, rfl⟩
        have HXW : Hid (b < w2.heap.size ∧ w2.cell? ⟨b, off + m * 2, none⟩ = some (.int .i64 x.1) ∧ w2.cell? ⟨b, off + m * 2 + 1, none⟩ = some (.int .i64 x.2)) := by
          rw [HW2.out]; exact ⟨Nat.lt_of_lt_of_le hbl hB.size, x0, x1⟩
        have HB2 : Hid (Below w0.heap.size w0 w2) := by rw [HW2.out]; exact belDrewN hB nq
        clear hB x0 x1 hown hle'
        by_cases hn : u5 = .slice none 0 0
        · subst hn
          have h0 : s = 0 := by
            obtain ⟨_, ⟨_, h0⟩ | ⟨g, cap, cur, hv, _⟩⟩ := hownq
            · exact h0
            · cases hv
          subst h0
          clear hownq
          obtain rfl : oo = #[] := Array.eq_empty_of_size_eq_zero HSZ.out
          go_wp2_with fail
          go_loopw [8] (fun kk wr => kk = .int .i64 0 ∧ Below w2.heap.size w2 wr) (fun _ _ => 0)
          case atStart => exact ⟨rfl, by rw [HW2.out]; exact Below.refl _ _⟩
          case round =>
            obtain ⟨rfl, hBi⟩ := hrel
            go_wp2_with fail
            go_quiet (fail)
            have hBi2 := belDrewN hBi nq
            clear hBi
            generalize wr.drewN nq = wc at hBi2 ⊢
            have hBi := hBi2
            clear hBi2
            have HX : Hid (b < wc.heap.size ∧ wc.cell? ⟨b, off + m * 2, none⟩ = some (.int .i64 x.1) ∧ wc.cell? ⟨b, off + m * 2 + 1, none⟩ = some (.int .i64 x.2)) := ⟨Nat.lt_of_lt_of_le HXW.out.1 hBi.size, (hBi.cell (p := ⟨b, off + m * 2, none⟩) HXW.out.1).trans HXW.out.2.1, (hBi.cell (p := ⟨b, off + m * 2 + 1, none⟩) HXW.out.1).trans HXW.out.2.2⟩
            have x0 := HX.out.2.1
            have x1 := HX.out.2.2
            have HBW : Hid (Below w0.heap.size w0 wc) := HB2.out.trans (hBi.mono HB2.out.size)
            have hbz : Below wc.heap.size wc wc := Below.refl _ _
            have HPUT : Hid (InsU d (m + 1) (#[] ++ ((#[] : Array (Int × Int)).toList.take 0).toArray ++ #[x] ++ ((#[] : Array (Int × Int)).toList.drop 0).toArray)) := by
              have := HI.out.put (k := 0) hlt (by rw [HX2.out]; exact HLE.out) (Nat.zero_le _) (fun j hj => absurd hj (by omega)) (fun h => absurd h (by simp))
              rw [HX2.out] at this
              exact this
            clear hBi
            go_wp2_with fail
            go_region_held3 (fun w' => Below wc.heap.size wc w' ∧ w'.cell? ⟨b, off + m * 2, none⟩ = some (.int .i64 x.1) ∧ w'.cell? ⟨b, off + m * 2 + 1, none⟩ = some (.int .i64 x.2)) (first | assumption | exact keep3 HX.out (by assumption) | exact keep3 HX.out (And.left (by assumption)) | exact keep3 HX.out (Below.drew (by assumption)) | exact keep3 HX.out (Below.drew (And.left (by assumption))) | exact keep3 HX.out (belAlloc (by assumption) _) | exact keep3 HX.out (belAlloc (And.left (by assumption)) _) | exact keep3 HX.out (belAlloc (by assumption) _).drew | exact keep3 HX.out (belAlloc (And.left (by assumption)) _).drew | exact keep3 HX.out (belAlloc (Below.drew (by assumption)) _) | exact keep3 HX.out (belAlloc (Below.drew (And.left (by assumption))) _))
              (first
                | (refine step_append_R encA_1_I encA_len_I (by decide) (by rfl) _ _ _ (by rfl) wc 47 i0 _ 16 Tryz.underlying22 hi0 hz0 hz1 hz2 rfl _ #[] (by rfl) (by first | exact em2A _ _ | exact em2B _ _ _ | exact em2C _ _ _ (by simp)) _ _ _ (wc.heap.size + 9) ((#[] : Array (Int × Int)).toList.take 0).toArray (by rfl) (by have := HSZ.out; first | (simp; done) | (simp; omega)) (fun h => absurd h (by simp)) (fun _ => rfl) (by have := HSZ.out; first | (simp; done) | (simp; omega)) (by decide) (by first | assumption | exact And.left (by assumption)) ?_; intro v1 w1 hown1 hgrow1 hBw1)
                | (refine step_append_R encA_1_I encA_len_I (by decide) (by rfl) _ _ _ (by rfl) wc 47 i0 _ 16 Tryz.underlying22 hi0 hz0 hz1 hz2 rfl v1 (#[] ++ ((#[] : Array (Int × Int)).toList.take 0).toArray) (by rfl) (by first | exact hown1 | exact (hown1.alloc _).drew) _ _ _ _ #[x] (by rfl) (by rfl) (by first | exact one2A _ _ _ | exact one2B hgrow1 | exact one2C hgrow1) (fun h => by cases h) (by have := HSZ.out; first | (simp; done) | (simp; omega)) (by decide) (by first | assumption | exact And.left (by assumption)) ?_; intro v2 w2 hown2 hgrow2 hBw2)
                | (refine step_append_R encA_1_I encA_len_I (by decide) (by rfl) _ _ _ (by rfl) wc 47 i0 _ 16 Tryz.underlying22 hi0 hz0 hz1 hz2 rfl v2 (#[] ++ ((#[] : Array (Int × Int)).toList.take 0).toArray ++ #[x]) (by rfl) (by first | exact hown2 | exact hown2.drew) _ _ _ (wc.heap.size + 9) ((#[] : Array (Int × Int)).toList.drop 0).toArray (by rfl) (by have := HSZ.out; first | (simp; done) | (simp; omega)) (fun h => absurd h (by simp)) (fun _ => rfl) (by have := HSZ.out; first | (simp; done) | (simp; omega)) (by decide) (by first | assumption | exact And.left (by assumption)) ?_; intro v3 w3 hown3 hgrow3 hBw3))
            all_goals
              go_wp2
              exact ⟨⟨m + 1, _, by go_num, by omega, own_mono_I hown3 HBW.out.size, HPUT.out, HBW.out.trans (hBw3.mono HBW.out.size)⟩, by simp [intOf]; omega⟩
        · obtain ⟨g, cap, o0, rfl, hcap, hg, hH⟩ := own_parts hownq HSZ.out hn
          have HH2 : Hid (HoldsK encA_I 2 w2 g o0 oo) := by rw [HW2.out]; exact hH
          have HG2 : Hid (g < w2.heap.size) := by rw [HW2.out]; exact hg
          clear hH hg hownq hn
          go_wp2_with fail
          go_loopw [8] (fun kk wr => ∃ k : Nat, kk = .int .i64 k ∧ k ≤ s ∧ (∀ j, j < k → oo[j]!.1 ≤ x.1) ∧ Below w2.heap.size w2 wr) (fun kk _ => s - (intOf kk).toNat)
          case atStart => exact ⟨0, rfl, Nat.zero_le _, (fun j hj => absurd hj (by omega)), by rw [HW2.out]; exact Below.refl _ _⟩
          case round =>
            obtain ⟨k, rfl, hk, hj, hBi⟩ := hrel
            have HJ := Lib.hid hj
            clear hj
            have k0 : (0 : Int) ≤ (k : Int) := by omega
            have kc : (k : Int) ≤ (cap : Int) := by omega
            have kd : (k : Int) ≤ (s : Int) := by omega
            have q0 := (hBi.cell (p := ⟨b, off + m * 2, none⟩) HXW.out.1).trans HXW.out.2.1
            by_cases hkm : k < s
            · have hkz : (k : Int) < (s : Int) := by omega
              have p0 : wr.cell? ⟨g, o0 + k * 2, none⟩ = some (.int .i64 oo[k]!.1) := (cellsE HH2.out HG2.out hBi (k := k) (by rw [HSZ.out]; exact hkm) ⟨wr, Below.refl _ _⟩).1
              obtain ⟨y, hy⟩ : ∃ y, oo[k]!.1 = y := ⟨_, rfl⟩
              rw [hy] at p0
              have HY := Lib.hid hy
              clear hy
              by_cases hyx : y ≤ x.1
              · have hyx' : decide (y ≤ x.1) = true := decide_eq_true hyx
                have HYX := Lib.hid hyx
                clear hyx
                go_wp2_with fail
                go_quiet (fail)
                go_wp2
                exact ⟨⟨k + 1, by go_num, by omega, (fun j hj => by
                  rcases Nat.lt_or_ge j k with h | h
                  · exact HJ.out j h
                  · obtain rfl : j = k := by omega
                    rw [HY.out]; exact HYX.out), belDrewN hBi nq⟩, by simp [intOf]; omega⟩
              · have hyx' : decide (y ≤ x.1) = false := decide_eq_false hyx
                have HT : Hid (k < s → x.1 < oo[k]!.1) := fun _ => by rw [HY.out]; omega
                have hck : ¬ cap = k := by omega
                clear hyx
                go_wp2_with fail
                go_quiet (fail)
                have hBi2 := belDrewN hBi nq
                clear hBi p0 q0 hyx'
                generalize wr.drewN nq = wc at hBi2 ⊢
                have hBi := hBi2
                clear hBi2
                have HX : Hid (b < wc.heap.size ∧ wc.cell? ⟨b, off + m * 2, none⟩ = some (.int .i64 x.1) ∧ wc.cell? ⟨b, off + m * 2 + 1, none⟩ = some (.int .i64 x.2)) := ⟨Nat.lt_of_lt_of_le HXW.out.1 hBi.size, (hBi.cell (p := ⟨b, off + m * 2, none⟩) HXW.out.1).trans HXW.out.2.1, (hBi.cell (p := ⟨b, off + m * 2 + 1, none⟩) HXW.out.1).trans HXW.out.2.2⟩
                have x0 := HX.out.2.1
                have x1 := HX.out.2.2
                have HBW : Hid (Below w0.heap.size w0 wc) := HB2.out.trans (hBi.mono HB2.out.size)
                have hbz : Below wc.heap.size wc wc := Below.refl _ _
                have HH : Hid (HoldsK encA_I 2 wc g o0 oo) := holdsBel HH2.out HG2.out hBi
                have HG : Hid (g < wc.heap.size) := Nat.lt_of_lt_of_le HG2.out hBi.size
                have HPUT : Hid (InsU d (m + 1) (#[] ++ (oo.toList.take k).toArray ++ #[x] ++ (oo.toList.drop k).toArray)) := by
                  have := HI.out.put (k := k) hlt (by rw [HX2.out]; exact HLE.out) (by have := HSZ.out; omega) (fun j hj => by rw [HX2.out]; exact HJ.out j hj) (fun h => by rw [HX2.out]; exact HT.out (by have := HSZ.out; omega))
                  rw [HX2.out] at this
                  exact this
                clear hBi
                go_wp2_with fail
                go_region_held3 (fun w' => Below wc.heap.size wc w' ∧ w'.cell? ⟨b, off + m * 2, none⟩ = some (.int .i64 x.1) ∧ w'.cell? ⟨b, off + m * 2 + 1, none⟩ = some (.int .i64 x.2)) (first | assumption | exact keep3 HX.out (by assumption) | exact keep3 HX.out (And.left (by assumption)) | exact keep3 HX.out (Below.drew (by assumption)) | exact keep3 HX.out (Below.drew (And.left (by assumption))) | exact keep3 HX.out (belAlloc (by assumption) _) | exact keep3 HX.out (belAlloc (And.left (by assumption)) _) | exact keep3 HX.out (belAlloc (by assumption) _).drew | exact keep3 HX.out (belAlloc (And.left (by assumption)) _).drew | exact keep3 HX.out (belAlloc (Below.drew (by assumption)) _) | exact keep3 HX.out (belAlloc (Below.drew (And.left (by assumption))) _))
                  (first
                    | (refine step_append_R encA_1_I encA_len_I (by decide) (by rfl) _ _ _ (by rfl) wc 47 i0 _ 16 Tryz.underlying22 hi0 hz0 hz1 hz2 rfl _ #[] (by rfl) (by first | exact em2A _ _ | exact em2B _ _ _ | exact em2C _ _ _ (by simp)) _ _ _ (wc.heap.size + 9) (oo.toList.take k).toArray (by rfl) (by have := HSZ.out; first | (simp; done) | (simp; omega)) (rd_take HH.out HG.out (by first | assumption | exact And.left (by assumption)) HSZ.out (by omega) (by have := HG.out; omega)) (fun h => by cases h) (by have := HSZ.out; first | (simp; done) | (simp; omega)) (by decide) (by first | assumption | exact And.left (by assumption)) ?_; intro v1 w1 hown1 hgrow1 hBw1)
                    | (refine step_append_R encA_1_I encA_len_I (by decide) (by rfl) _ _ _ (by rfl) wc 47 i0 _ 16 Tryz.underlying22 hi0 hz0 hz1 hz2 rfl v1 (#[] ++ (oo.toList.take k).toArray) (by rfl) (by first | exact hown1 | exact (hown1.alloc _).drew) _ _ _ _ #[x] (by rfl) (by rfl) (by first | exact one2A _ _ _ | exact one2B hgrow1 | exact one2C hgrow1) (fun h => by cases h) (by have := HSZ.out; first | (simp; done) | (simp; omega)) (by decide) (by first | assumption | exact And.left (by assumption)) ?_; intro v2 w2 hown2 hgrow2 hBw2)
                    | (refine step_append_R encA_1_I encA_len_I (by decide) (by rfl) _ _ _ (by rfl) wc 47 i0 _ 16 Tryz.underlying22 hi0 hz0 hz1 hz2 rfl v2 (#[] ++ (oo.toList.take k).toArray ++ #[x]) (by rfl) (by first | exact hown2 | exact hown2.drew) _ _ _ (wc.heap.size + 9) (oo.toList.drop k).toArray (by rfl) (by have := HSZ.out; first | (simp; done) | (simp; omega)) (rd_drop HH.out HG.out (by first | assumption | exact And.left (by assumption)) HSZ.out (by omega) (by have := HG.out; omega) (by omega)) (fun h => by cases h) (by have := HSZ.out; first | (simp; done) | (simp; omega)) (by decide) (by first | assumption | exact And.left (by assumption)) ?_; intro v3 w3 hown3 hgrow3 hBw3))
                all_goals
                  go_wp2
                  exact ⟨⟨m + 1, _, by go_num, by omega, own_mono_I hown3 HBW.out.size, HPUT.out, HBW.out.trans (hBw3.mono HBW.out.size)⟩, by simp [intOf]; omega⟩
            · obtain rfl : k = s := by omega
              have HT : Hid (k < k → x.1 < oo[k]!.1) := fun h => absurd h (by omega)
              have hkd : decide ((k : Int) < (k : Int)) = false := decide_eq_false (by omega)
              by_cases hck : cap = k
              · obtain rfl : cap = k := hck
                go_wp2_with fail
                go_quiet (fail)
                have hBi2 := belDrewN hBi nq
                clear hBi q0
                generalize wr.drewN nq = wc at hBi2 ⊢
                have hBi := hBi2
                clear hBi2
                have HX : Hid (b < wc.heap.size ∧ wc.cell? ⟨b, off + m * 2, none⟩ = some (.int .i64 x.1) ∧ wc.cell? ⟨b, off + m * 2 + 1, none⟩ = some (.int .i64 x.2)) := ⟨Nat.lt_of_lt_of_le HXW.out.1 hBi.size, (hBi.cell (p := ⟨b, off + m * 2, none⟩) HXW.out.1).trans HXW.out.2.1, (hBi.cell (p := ⟨b, off + m * 2 + 1, none⟩) HXW.out.1).trans HXW.out.2.2⟩
                have x0 := HX.out.2.1
                have x1 := HX.out.2.2
                have HBW : Hid (Below w0.heap.size w0 wc) := HB2.out.trans (hBi.mono HB2.out.size)
                have hbz : Below wc.heap.size wc wc := Below.refl _ _
                have HH : Hid (HoldsK encA_I 2 wc g o0 oo) := holdsBel HH2.out HG2.out hBi
                have HG : Hid (g < wc.heap.size) := Nat.lt_of_lt_of_le HG2.out hBi.size
                have HPUT : Hid (InsU d (m + 1) (#[] ++ (oo.toList.take cap).toArray ++ #[x] ++ (oo.toList.drop cap).toArray)) := by
                  have := HI.out.put (k := cap) hlt (by rw [HX2.out]; exact HLE.out) (by have := HSZ.out; omega) (fun j hj => by rw [HX2.out]; exact HJ.out j hj) (fun h => by rw [HX2.out]; exact HT.out (by have := HSZ.out; omega))
                  rw [HX2.out] at this
                  exact this
                clear hBi
                go_wp2_with fail
                go_region_held3 (fun w' => Below wc.heap.size wc w' ∧ w'.cell? ⟨b, off + m * 2, none⟩ = some (.int .i64 x.1) ∧ w'.cell? ⟨b, off + m * 2 + 1, none⟩ = some (.int .i64 x.2)) (first | assumption | exact keep3 HX.out (by assumption) | exact keep3 HX.out (And.left (by assumption)) | exact keep3 HX.out (Below.drew (by assumption)) | exact keep3 HX.out (Below.drew (And.left (by assumption))) | exact keep3 HX.out (belAlloc (by assumption) _) | exact keep3 HX.out (belAlloc (And.left (by assumption)) _) | exact keep3 HX.out (belAlloc (by assumption) _).drew | exact keep3 HX.out (belAlloc (And.left (by assumption)) _).drew | exact keep3 HX.out (belAlloc (Below.drew (by assumption)) _) | exact keep3 HX.out (belAlloc (Below.drew (And.left (by assumption))) _))
                  (first
                    | (refine step_append_R encA_1_I encA_len_I (by decide) (by rfl) _ _ _ (by rfl) wc 47 i0 _ 16 Tryz.underlying22 hi0 hz0 hz1 hz2 rfl _ #[] (by rfl) (by first | exact em2A _ _ | exact em2B _ _ _ | exact em2C _ _ _ (by simp)) _ _ _ (wc.heap.size + 9) (oo.toList.take cap).toArray (by rfl) (by have := HSZ.out; first | (simp; done) | (simp; omega)) (rd_take HH.out HG.out (by first | assumption | exact And.left (by assumption)) HSZ.out (by omega) (by have := HG.out; omega)) (fun h => by cases h) (by have := HSZ.out; first | (simp; done) | (simp; omega)) (by decide) (by first | assumption | exact And.left (by assumption)) ?_; intro v1 w1 hown1 hgrow1 hBw1)
                    | (refine step_append_R encA_1_I encA_len_I (by decide) (by rfl) _ _ _ (by rfl) wc 47 i0 _ 16 Tryz.underlying22 hi0 hz0 hz1 hz2 rfl v1 (#[] ++ (oo.toList.take cap).toArray) (by rfl) (by first | exact hown1 | exact (hown1.alloc _).drew) _ _ _ _ #[x] (by rfl) (by rfl) (by first | exact one2A _ _ _ | exact one2B hgrow1 | exact one2C hgrow1) (fun h => by cases h) (by have := HSZ.out; first | (simp; done) | (simp; omega)) (by decide) (by first | assumption | exact And.left (by assumption)) ?_; intro v2 w2 hown2 hgrow2 hBw2)
                    | (refine step_append_R encA_1_I encA_len_I (by decide) (by rfl) _ _ _ (by rfl) wc 47 i0 _ 16 Tryz.underlying22 hi0 hz0 hz1 hz2 rfl v2 (#[] ++ (oo.toList.take cap).toArray ++ #[x]) (by rfl) (by first | exact hown2 | exact hown2.drew) _ _ _ (wc.heap.size + 9) (oo.toList.drop cap).toArray (by rfl) (by have := HSZ.out; first | (simp; done) | (simp; omega)) (rd_drop HH.out HG.out (by first | assumption | exact And.left (by assumption)) HSZ.out (by omega) (by have := HG.out; omega) (by omega)) (fun h => by cases h) (by have := HSZ.out; first | (simp; done) | (simp; omega)) (by decide) (by first | assumption | exact And.left (by assumption)) ?_; intro v3 w3 hown3 hgrow3 hBw3))
                all_goals
                  go_wp2
                  exact ⟨⟨m + 1, _, by go_num, by omega, own_mono_I hown3 HBW.out.size, HPUT.out, HBW.out.trans (hBw3.mono HBW.out.size)⟩, by simp [intOf]; omega⟩
              · go_wp2_with fail
                go_quiet (fail)
                have hBi2 := belDrewN hBi nq
                clear hBi q0
                generalize wr.drewN nq = wc at hBi2 ⊢
                have hBi := hBi2
                clear hBi2
                have HX : Hid (b < wc.heap.size ∧ wc.cell? ⟨b, off + m * 2, none⟩ = some (.int .i64 x.1) ∧ wc.cell? ⟨b, off + m * 2 + 1, none⟩ = some (.int .i64 x.2)) := ⟨Nat.lt_of_lt_of_le HXW.out.1 hBi.size, (hBi.cell (p := ⟨b, off + m * 2, none⟩) HXW.out.1).trans HXW.out.2.1, (hBi.cell (p := ⟨b, off + m * 2 + 1, none⟩) HXW.out.1).trans HXW.out.2.2⟩
                have x0 := HX.out.2.1
                have x1 := HX.out.2.2
                have HBW : Hid (Below w0.heap.size w0 wc) := HB2.out.trans (hBi.mono HB2.out.size)
                have hbz : Below wc.heap.size wc wc := Below.refl _ _
                have HH : Hid (HoldsK encA_I 2 wc g o0 oo) := holdsBel HH2.out HG2.out hBi
                have HG : Hid (g < wc.heap.size) := Nat.lt_of_lt_of_le HG2.out hBi.size
                have HPUT : Hid (InsU d (m + 1) (#[] ++ (oo.toList.take k).toArray ++ #[x] ++ (oo.toList.drop k).toArray)) := by
                  have := HI.out.put (k := k) hlt (by rw [HX2.out]; exact HLE.out) (by have := HSZ.out; omega) (fun j hj => by rw [HX2.out]; exact HJ.out j hj) (fun h => by rw [HX2.out]; exact HT.out (by have := HSZ.out; omega))
                  rw [HX2.out] at this
                  exact this
                clear hBi
                go_wp2_with fail
                go_region_held3 (fun w' => Below wc.heap.size wc w' ∧ w'.cell? ⟨b, off + m * 2, none⟩ = some (.int .i64 x.1) ∧ w'.cell? ⟨b, off + m * 2 + 1, none⟩ = some (.int .i64 x.2)) (first | assumption | exact keep3 HX.out (by assumption) | exact keep3 HX.out (And.left (by assumption)) | exact keep3 HX.out (Below.drew (by assumption)) | exact keep3 HX.out (Below.drew (And.left (by assumption))) | exact keep3 HX.out (belAlloc (by assumption) _) | exact keep3 HX.out (belAlloc (And.left (by assumption)) _) | exact keep3 HX.out (belAlloc (by assumption) _).drew | exact keep3 HX.out (belAlloc (And.left (by assumption)) _).drew | exact keep3 HX.out (belAlloc (Below.drew (by assumption)) _) | exact keep3 HX.out (belAlloc (Below.drew (And.left (by assumption))) _))
                  (first
                    | (refine step_append_R encA_1_I encA_len_I (by decide) (by rfl) _ _ _ (by rfl) wc 47 i0 _ 16 Tryz.underlying22 hi0 hz0 hz1 hz2 rfl _ #[] (by rfl) (by first | exact em2A _ _ | exact em2B _ _ _ | exact em2C _ _ _ (by simp)) _ _ _ (wc.heap.size + 9) (oo.toList.take k).toArray (by rfl) (by have := HSZ.out; first | (simp; done) | (simp; omega)) (rd_take HH.out HG.out (by first | assumption | exact And.left (by assumption)) HSZ.out (by omega) (by have := HG.out; omega)) (fun h => by cases h) (by have := HSZ.out; first | (simp; done) | (simp; omega)) (by decide) (by first | assumption | exact And.left (by assumption)) ?_; intro v1 w1 hown1 hgrow1 hBw1)
                    | (refine step_append_R encA_1_I encA_len_I (by decide) (by rfl) _ _ _ (by rfl) wc 47 i0 _ 16 Tryz.underlying22 hi0 hz0 hz1 hz2 rfl v1 (#[] ++ (oo.toList.take k).toArray) (by rfl) (by first | exact hown1 | exact (hown1.alloc _).drew) _ _ _ _ #[x] (by rfl) (by rfl) (by first | exact one2A _ _ _ | exact one2B hgrow1 | exact one2C hgrow1) (fun h => by cases h) (by have := HSZ.out; first | (simp; done) | (simp; omega)) (by decide) (by first | assumption | exact And.left (by assumption)) ?_; intro v2 w2 hown2 hgrow2 hBw2)
                    | (refine step_append_R encA_1_I encA_len_I (by decide) (by rfl) _ _ _ (by rfl) wc 47 i0 _ 16 Tryz.underlying22 hi0 hz0 hz1 hz2 rfl v2 (#[] ++ (oo.toList.take k).toArray ++ #[x]) (by rfl) (by first | exact hown2 | exact hown2.drew) _ _ _ (wc.heap.size + 9) (oo.toList.drop k).toArray (by rfl) (by have := HSZ.out; first | (simp; done) | (simp; omega)) (rd_drop HH.out HG.out (by first | assumption | exact And.left (by assumption)) HSZ.out (by omega) (by have := HG.out; omega) (by omega)) (fun h => by cases h) (by have := HSZ.out; first | (simp; done) | (simp; omega)) (by decide) (by first | assumption | exact And.left (by assumption)) ?_; intro v3 w3 hown3 hgrow3 hBw3))
                all_goals
                  go_wp2
                  exact ⟨⟨m + 1, _, by go_num, by omega, own_mono_I hown3 HBW.out.size, HPUT.out, HBW.out.trans (hBw3.mono HBW.out.size)⟩, by simp [intOf]; omega⟩
    · obtain rfl : m = d.size := by omega
      obtain ⟨N1, N2⟩ := HI.out.fin HV.out
      have HFN : Hid (IsN (inR d) (formF oo.toList) ∧ (formF oo.toList).size ≤ d.size) := ⟨N1, N2⟩
      have HF := Lib.hid (foldU HI.out HV.out)
      have hros : RdV wr u5 oo := RdV.own hown
      obtain ⟨Ao, co, rfl, hro, _⟩ := hros
      have HRo := Lib.hid hro
      have HBL := Lib.hid hB
      have hlt' : ¬ (d.size : Int) < (d.size : Int) := by omega
      have hod : oo.size ≤ 100000 := by omega
      clear hown hB hro N1 N2 HI HV hsm
      obtain ⟨wl, HWL⟩ : ∃ W, Hid (W = wr) := ⟨_, rfl⟩
      rw [← HWL.out] at HRo HBL
      go_wp2
      go_loopw [9, 10] (fun v i wr => ∃ (j : Nat) (out : Array (Int × Int)), i = .int .i64 j ∧ j ≤ oo.size ∧ out = (oo.toList.take j).foldl addF #[] ∧ wr.ownsRow wl.heap.size 47 2 v out.size (flatK encR 2 out).toList ∧ Below wl.heap.size wl wr) (fun _ i _ => oo.size - (intOf i).toNat)
      case atStart => exact ⟨0, #[], rfl, Nat.zero_le _, rfl, nil_ownsK _ _ _ _ _, by rw [HWL.out]; exact Below.refl _ _⟩
      case round =>
        obtain ⟨j, out, rfl, hj, ho, hown, hb⟩ := hrel
        have hzb := hb.size
        by_cases hlt : j < oo.size
        · have jz : (j : Int) < (oo.size : Int) := by omega
          obtain ⟨b, off, rfl, hbl, f⟩ := (HRo.out.below hb).at_ hlt
          have e0 := f 0 (by omega)
          have e1 := f 1 (by omega)
          have HNL : Hid (NL out.toList) := by rw [ho]; exact HF.out j
          have HS : Hid ((oo.toList.take (j + 1)).foldl addF #[] = addF out oo[j]!) := by show _ = _; rw [ho]; exact foldU_succ hlt
          have hosz : out.size ≤ j := by
            have := foldF_size (oo.toList.take j) #[]
            rw [← ho] at this
            simp at this
            omega
          obtain ⟨x, hx⟩ : ∃ x, oo[j]! = x := ⟨_, rfl⟩
          rw [hx] at e0 e1 HS
          simp only [Nat.add_zero, encR, List.getElem!_cons_zero, List.getElem!_cons_succ] at e0 e1
          clear f hx ho
          rcases Nat.eq_zero_or_pos out.size with h0 | h0
          · obtain rfl : out = #[] := Array.eq_empty_of_size_eq_zero h0
            have HE : Hid ((oo.toList.take (j + 1)).foldl addF #[] = #[x]) := HS.out.trans (addU_push (by simp))
            obtain ⟨A, c, rfl, _, _⟩ := rdK_of_owns hown
            clear HS h0
            go_wp2
            go_quiet (fail)
            have row' : (wr.drewN nq).ownsRow wl.heap.size 47 2 (.slice A 0 c) 0 [] := by have := hown; rw [flatK_nil] at this; exact this
            go_wp2_with (at_builtin; refine wpList_append_own _ rfl _ _ 22 rfl wl.heap.size 47 i0 (.agg #[.int .i64 0, .int .i64 0]) 2 16 Tryz.underlying22 hi0 hz0 hz1 hz2 rfl (by decide) _ _ _ rfl (row'.alloc _) ⟨wr.heap.size, 0, none⟩ 1 1 [.int .i64 x.1, .int .i64 x.2] rfl rfl (two_new_R (wr.drewN nq) _ _ _) (by simp [Value.oneCell']) (by unfold maxLen; omega) (by omega) (by simp; omega) ?_; intro v' w2 hown' hgrow _)
            exact ⟨⟨j + 1, _, by go_num, by omega, HE.out.symm, (by show w2.ownsRow _ _ _ _ ((#[] : Array (Int × Int)).push x).size (flatK encR 2 (#[].push x)).toList; rw [Array.size_push, flatK_push encR_len, flatK_nil]; exact hown'), own_app1 (belDrewN hb nq) hzb row' hgrow⟩, by simp [intOf]; omega⟩
          · obtain ⟨g0, cap, rfl, hgb, hgl, hH⟩ := holds_of_owns hown (by
              rintro rfl
              obtain ⟨_, ⟨_, h'⟩ | ⟨_, _, _, e, _⟩⟩ := hown
              · omega
              · cases e)
            have hlo := HNL.out.at_ (k := out.size - 1) (by omega)
            have hc5 := (hH ((out.size - 1) * 2 + 1) (by rw [size_flatK]; omega)).1
            rw [Nat.zero_add, flat_at _ _ _ _ _ (by omega) (by decide)] at hc5
            have HP : Hid (¬ (x.1 ≤ out[out.size - 1]!.2 + 1) → (oo.toList.take (j + 1)).foldl addF #[] = out.push x) := fun h => HS.out.trans (addU_push fun h' => h h'.2)
            have HJ : Hid (x.1 ≤ out[out.size - 1]!.2 + 1 → out[out.size - 1]!.2 < x.2 → (oo.toList.take (j + 1)).foldl addF #[] = out.set! (out.size - 1) (out[out.size - 1]!.1, x.2)) := fun h h' => HS.out.trans (addF_join h0 h h')
            have HK : Hid (x.1 ≤ out[out.size - 1]!.2 + 1 → ¬ out[out.size - 1]!.2 < x.2 → (oo.toList.take (j + 1)).foldl addF #[] = out) := fun h h' => HS.out.trans (addF_in h0 h h')
            have HFl : Hid ((flatK encR 2 (out.set! (out.size - 1) (out[out.size - 1]!.1, x.2))).toList = (flatK encR 2 out).toList.set ((out.size - 1) * 2 + 1) (.int .i64 x.2)) := flatK_setHi out (out.size - 1) (by omega) _
            have hf5 := hown.frozenAt ((out.size - 1) * 2 + 1)
            have hy1 := hlo.1
            have hy2 := hlo.2.1
            have hy3 := hlo.2.2
            clear hH hlo HS
            generalize out[out.size - 1]! = y at hy1 hy2 hy3 hc5 HP HJ HK HFl
            simp only [encR, List.getElem!_cons_zero, List.getElem!_cons_succ] at hc5
            have p0 : (0 : Int) ≤ (out.size : Int) - 1 := by omega
            have p1 : (out.size : Int) - 1 < (out.size : Int) := by omega
            have p2 : (1 : Int) ≤ (out.size : Int) := by omega
            have p3 : decide ((0 : Int) < (out.size : Int)) = true := decide_eq_true (by omega)
            have hix : ((out.size : Int) - 1).toNat = out.size - 1 := by omega
            have hwp : IntKind.i64.wrap ((out.size : Int) - 1) = (out.size : Int) - 1 := by rw [IntKind.wrap_i64]; omega
            have hwy : IntKind.i64.wrap (y.2 + 1) = y.2 + 1 := by rw [IntKind.wrap_i64]; omega
            by_cases hj1 : x.1 ≤ y.2 + 1
            · have hj1' : decide (x.1 ≤ y.2 + 1) = true := decide_eq_true hj1
              have HJ1 := Lib.hid hj1
              clear hj1
              by_cases hj2 : y.2 < x.2
              · have hj2' : decide (y.2 < x.2) = true := decide_eq_true hj2
                have HE := Lib.hid (HJ.out HJ1.out hj2)
                clear hj2
                go_wp2
                go_quiet (fail)
                have hownq : (wr.drewN nq).ownsRow wl.heap.size 47 2 (.slice (some ⟨g0, 0, none⟩) out.size cap) out.size (flatK encR 2 out).toList := hown
                have hbq := belDrewN hb nq
                have e1q : (wr.drewN nq).cell? ⟨b, off + j * 2 + 1, none⟩ = some (.int .i64 x.2) := e1
                have hc5q : (wr.drewN nq).cell? ⟨g0, (out.size - 1) * 2 + 1, none⟩ = some (.int .i64 y.2) := hc5
                have hf5q : (wr.drewN nq).frozen? ⟨g0, (out.size - 1) * 2 + 1, none⟩ = false := hf5
                clear hown hb e0 e1 hc5 hf5 hgl hzb
                generalize wr.drewN nq = wq at hownq hbq e1q hc5q hf5q ⊢
                go_wp2
                go_quiet (fail)
                go_wp2
                obtain ⟨hs1, hs2⟩ := World.ownsRow.stored (w := wq.drewN nq) (by exact hownq) ((out.size - 1) * 2 + 1) (.int .i64 x.2)
                exact ⟨⟨j + 1, _, by go_num, by omega, HE.out.symm, (by rw [HFl.out]; simpa using hs1), (belDrewN hbq nq).setCell (p := ⟨g0, _, none⟩) hgb _⟩, by simp [intOf]; omega⟩
              · have hj2' : decide (y.2 < x.2) = false := decide_eq_false hj2
                have HE := Lib.hid (HK.out HJ1.out hj2)
                clear hj2
                go_wp2
                go_quiet (fail)
                have hownq : (wr.drewN nq).ownsRow wl.heap.size 47 2 (.slice (some ⟨g0, 0, none⟩) out.size cap) out.size (flatK encR 2 out).toList := hown
                have hbq := belDrewN hb nq
                have e1q : (wr.drewN nq).cell? ⟨b, off + j * 2 + 1, none⟩ = some (.int .i64 x.2) := e1
                have hc5q : (wr.drewN nq).cell? ⟨g0, (out.size - 1) * 2 + 1, none⟩ = some (.int .i64 y.2) := hc5
                clear hown hb e0 e1 hc5 hf5 hgl hzb
                generalize wr.drewN nq = wq at hownq hbq e1q hc5q ⊢
                go_wp2
                go_quiet (fail)
                go_wp2
                exact ⟨⟨j + 1, _, by go_num, by omega, HE.out.symm, hownq, belDrewN hbq nq⟩, by simp [intOf]; omega⟩
            · have hj1' : decide (x.1 ≤ y.2 + 1) = false := decide_eq_false hj1
              have HE := Lib.hid (HP.out hj1)
              clear hj1
              go_wp2
              go_quiet (fail)
              have row' : (wr.drewN nq).ownsRow wl.heap.size 47 2 (.slice (some ⟨g0, 0, none⟩) out.size cap) out.size (flatK encR 2 out).toList := hown
              go_wp2_with (at_builtin; refine wpList_append_own _ rfl _ _ 22 rfl wl.heap.size 47 i0 (.agg #[.int .i64 0, .int .i64 0]) 2 16 Tryz.underlying22 hi0 hz0 hz1 hz2 rfl (by decide) _ _ _ rfl (row'.alloc _) ⟨wr.heap.size, 0, none⟩ 1 1 [.int .i64 x.1, .int .i64 x.2] rfl rfl (two_new_R (wr.drewN nq) _ _ _) (by simp [Value.oneCell']) (by unfold maxLen; omega) (by omega) (by simp; omega) ?_; intro v' w2 hown' hgrow _)
              exact ⟨⟨j + 1, _, by go_num, by omega, HE.out.symm, (by rw [Array.size_push, flatK_push encR_len]; exact hown'), own_app1 (belDrewN hb nq) hzb row' hgrow⟩, by simp [intOf]; omega⟩
        · obtain rfl : j = oo.size := by omega
          have HE : Hid (out = formF oo.toList) := by show _ = _; rw [ho, List.take_of_length_le (by simp)]; rfl
          have HFN2 : Hid (IsN (inR d) out ∧ out.size ≤ d.size) := by rw [HE.out]; exact HFN.out
          have hltj : ¬ (oo.size : Int) < (oo.size : Int) := by omega
          clear ho
          go_wp2
          go_ret
          exact ⟨_, rfl, out, by rw [HDD.out]; exact HFN2.out.1, by rw [HDZ.out]; exact HFN2.out.2, own_mono_I hown (belStep HB0.out HBL.out).size, belStep (belStep HB0.out HBL.out) hb⟩
end Go.Proofs.YtgpejfkmdenonaaGreat
