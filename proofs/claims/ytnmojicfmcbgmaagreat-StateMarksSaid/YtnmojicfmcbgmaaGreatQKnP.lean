/- The plain law of what is known of a replica's promises: no program in sight. known.rise and rubatoref16.rise: do times that are attached rise, and belong to commands? rubatoref16.at: is a time one of what is attached? known.between: the ranges from lo and 1 to hi without some times. slices.ContainsFunc at api.Att. known.form: the one form. -/
import Derived.Test.YtnmojicfmcbgmaaGreatQRangesO
import Derived.Test.YtnmojicfmcbgmaaGreatQSortJ
import Derived.Deep.LoopGhost
import Derived.Test.YtnmojicfmcbgmaaGreatQIdentE
namespace Go.Proofs.YtnmojicfmcbgmaaGreat
open Go.RowKit Go.Sort Go.Lib

/-- What is known: a base, ranges above it, and the times that are attached. -/
structure KN where
  base : Int
  rs : Array (Int × Int)
  ats : Array (Int × Int)
instance : Inhabited KN := ⟨⟨0, #[], #[]⟩⟩
def okI (id : Int) : Bool := decide (10 ≤ id ∧ id ≤ 999999 ∧ id % 10 ≠ 0)
def riseL (hi : Int) : Int → List (Int × Int) → Bool
  | _, [] => true
  | lo, x :: l => decide (lo < x.1 ∧ x.1 ≤ hi) && okI x.2 && riseL hi x.1 l
theorem riseL_iff (hi : Int) : ∀ (l : List (Int × Int)) (lo : Int), riseL hi lo l = true ↔ l.Pairwise (fun x y => x.1 < y.1) ∧ ∀ x ∈ l, lo < x.1 ∧ x.1 ≤ hi ∧ okI x.2 = true
  | [], lo => by simp [riseL]
  | x :: l, lo => by
    rw [riseL, Bool.and_eq_true, Bool.and_eq_true, decide_eq_true_eq, riseL_iff hi l x.1, List.pairwise_cons]
    constructor
    · rintro ⟨⟨⟨h1, h2⟩, h3⟩, h4, h5⟩
      refine ⟨⟨fun y hy => (h5 y hy).1, h4⟩, fun y hy => ?_⟩
      rcases List.mem_cons.1 hy with rfl | hy
      · exact ⟨h1, h2, h3⟩
      · exact ⟨Int.lt_trans h1 (h5 y hy).1, (h5 y hy).2⟩
    · rintro ⟨⟨h1, h2⟩, h3⟩
      have hx := h3 x (by simp)
      exact ⟨⟨⟨hx.1, hx.2.1⟩, hx.2.2⟩, h2, fun y hy => ⟨h1 y hy, (h3 y (by simp [hy])).2⟩⟩
/-- Is what is known right? -/
def chkB (k : KN) : Bool := decide (0 ≤ k.base ∧ k.base ≤ 1000000) && (setE_R k.rs == 0) && decide (k.ats.size ≤ 400) && riseL 1000000 k.base k.ats.toList && decide (0 < k.rs.size → k.base + 1 < k.rs[0]!.1) && !(k.ats.toList.any fun a => inR k.rs a.1)
def chkE (k : KN) : Int := if chkB k = true then 0 else 2
structure ChkP (k : KN) : Prop where
  b0 : 0 ≤ k.base
  b1 : k.base ≤ 1000000
  rs : setE_R k.rs = 0
  sz : k.ats.size ≤ 400
  up : riseL 1000000 k.base k.ats.toList = true
  fst : 0 < k.rs.size → k.base + 1 < k.rs[0]!.1
  out : ∀ a ∈ k.ats.toList, inR k.rs a.1 = false
theorem chk_iff {k : KN} : chkB k = true ↔ ChkP k := by
  unfold chkB
  simp only [Bool.and_eq_true, decide_eq_true_eq, beq_iff_eq, Bool.not_eq_true', List.any_eq_false, Bool.not_eq_true]
  constructor
  · rintro ⟨⟨⟨⟨⟨⟨h1, h2⟩, h3⟩, h4⟩, h5⟩, h6⟩, h7⟩
    exact ⟨h1, h2, h3, h4, h5, h6, h7⟩
  · rintro ⟨h1, h2, h3, h4, h5, h6, h7⟩
    exact ⟨⟨⟨⟨⟨⟨h1, h2⟩, h3⟩, h4⟩, h5⟩, h6⟩, h7⟩
def hasK (k : KN) (t : Int) : Bool := chkB k && (decide (1 ≤ t ∧ t ≤ k.base) || hasB_R k.rs t)
theorem hasK_iff {k : KN} (h : ChkP k) (t : Int) : hasK k t = true ↔ (1 ≤ t ∧ t ≤ k.base) ∨ inR k.rs t = true := by
  unfold hasK hasB_R
  rw [chk_iff.2 h, h.rs]
  simp
def timesL (l : List (Int × Int)) : List Int := l.map (·.1)
/-- What is attached of both, each time once, the first one ahead. -/
def mrgK (a b : Array (Int × Int)) : Array (Int × Int) := srtA (a.toList ++ b.toList.filter fun x => !(timesL a.toList).contains x.1).toArray
theorem srtA_mem {d : Array (Int × Int)} {x : Int × Int} : x ∈ (srtA d).toList ↔ x ∈ d.toList := by
  unfold srtA
  exact (List.mergeSort_perm d.toList _).mem_iff
theorem mrgK_mem {a b : Array (Int × Int)} {x : Int × Int} : x ∈ (mrgK a b).toList ↔ x ∈ a.toList ∨ (x ∈ b.toList ∧ x.1 ∉ timesL a.toList) := by
  unfold mrgK
  rw [srtA_mem]
  simp
theorem mrgK_size (a b : Array (Int × Int)) : (mrgK a b).size ≤ a.size + b.size := by
  unfold mrgK
  rw [srtA_size]
  have := List.length_filter_le (fun x : Int × Int => !(timesL a.toList).contains x.1) b.toList
  simp at this ⊢
  omega
theorem mrgK_times {a b : Array (Int × Int)} {t : Int} : t ∈ timesL (mrgK a b).toList ↔ t ∈ timesL a.toList ∨ t ∈ timesL b.toList := by
  unfold timesL
  simp only [List.mem_map]
  constructor
  · rintro ⟨x, hx, rfl⟩
    rcases mrgK_mem.1 hx with h | h
    · exact Or.inl ⟨x, h, rfl⟩
    · exact Or.inr ⟨x, h.1, rfl⟩
  · rintro (⟨x, hx, rfl⟩ | ⟨x, hx, rfl⟩)
    · exact ⟨x, mrgK_mem.2 (Or.inl hx), rfl⟩
    · by_cases h : x.1 ∈ timesL a.toList
      · obtain ⟨y, hy, e⟩ := List.mem_map.1 h
        exact ⟨y, mrgK_mem.2 (Or.inl hy), e⟩
      · exact ⟨x, mrgK_mem.2 (Or.inr ⟨hx, h⟩), rfl⟩
theorem srtA_up {d : Array (Int × Int)} (h : (timesL d.toList).Nodup) : (srtA d).toList.Pairwise (fun x y => x.1 < y.1) := by
  have hs : (srtA d).toList.Pairwise (fun x y => (!lessA y x) = true) := by
    unfold srtA
    refine List.pairwise_mergeSort (fun a b c h1 h2 => ?_) (fun a b => ?_) d.toList
    · obtain ⟨a1, a2⟩ := a; obtain ⟨b1, b2⟩ := b; obtain ⟨c1, c2⟩ := c
      unfold lessA at *
      simp at *
      omega
    · obtain ⟨a1, a2⟩ := a; obtain ⟨b1, b2⟩ := b
      unfold lessA
      simp
      omega
  have hn : (timesL (srtA d).toList).Nodup := by
    have hp : (srtA d).toList.Perm d.toList := by unfold srtA; exact List.mergeSort_perm d.toList _
    exact ((hp.map (fun x : Int × Int => x.1)).nodup_iff).2 h
  have hn' : (srtA d).toList.Pairwise (fun x y => x.1 ≠ y.1) := by
    have := hn
    unfold timesL at this
    exact (List.pairwise_map.1 this)
  refine (hs.and hn').imp ?_
  rintro ⟨x1, x2⟩ ⟨y1, y2⟩ ⟨h1, h2⟩
  unfold lessA at h1
  simp at h1 h2 ⊢
  omega
theorem nodup_of_up {l : List (Int × Int)} (h : l.Pairwise (fun x y => x.1 < y.1)) : (timesL l).Nodup := by
  unfold timesL
  exact List.pairwise_map.2 (h.imp (fun h => Int.ne_of_lt h))
theorem up_inj : ∀ {l : List (Int × Int)}, l.Pairwise (fun x y => x.1 < y.1) → ∀ {x y : Int × Int}, x ∈ l → y ∈ l → x.1 = y.1 → x = y
  | [], _, _, _, hx, _, _ => by cases hx
  | z :: l, h, x, y, hx, hy, e => by
    obtain ⟨h1, h2⟩ := List.pairwise_cons.1 h
    rcases List.mem_cons.1 hx with e1 | hx'
    · rcases List.mem_cons.1 hy with e2 | hy'
      · rw [e1, e2]
      · have := h1 y hy'; rw [e1] at e; omega
    · rcases List.mem_cons.1 hy with e2 | hy'
      · have := h1 x hx'; rw [e2] at e; omega
      · exact up_inj h2 hx' hy' e
theorem mrgK_up {a b : Array (Int × Int)} (ha : a.toList.Pairwise (fun x y => x.1 < y.1)) (hb : b.toList.Pairwise (fun x y => x.1 < y.1)) : (mrgK a b).toList.Pairwise (fun x y => x.1 < y.1) := by
  unfold mrgK
  refine srtA_up ?_
  show (timesL (a.toList ++ _)).Nodup
  unfold timesL
  rw [List.map_append]
  refine List.nodup_append.2 ⟨nodup_of_up ha, nodup_of_up (hb.filter _), fun x hx y hy e => ?_⟩
  obtain ⟨z, hz, rfl⟩ := List.mem_map.1 hy
  have := (List.mem_filter.1 hz).2
  simp at this
  obtain ⟨u, hu, e'⟩ := List.mem_map.1 hx
  exact this u.2 (by have : (u.1, u.2) = (z.1, u.2) := by rw [e', e]
                     rw [← this]; simpa using hu)
theorem srtA_self {d : Array (Int × Int)} (h : d.toList.Pairwise (fun x y => x.1 < y.1)) : srtA d = d := by
  unfold srtA
  rw [List.mergeSort_of_pairwise]
  refine h.imp ?_
  rintro ⟨x1, x2⟩ ⟨y1, y2⟩ h
  unfold lessA
  simp at h ⊢
  omega

/-! ranges from lo to hi without some times -/
def betL (lo hi : Int) : Int → List Int → List (Int × Int)
  | at', [] => [(at', hi)]
  | at', t :: l => if lo < t ∧ t ≤ hi then (at', t - 1) :: betL lo hi (t + 1) l else betL lo hi at' l
theorem betL_len (lo hi : Int) : ∀ (l : List Int) (at' : Int), (betL lo hi at' l).length ≤ l.length + 1
  | [], _ => by simp [betL]
  | t :: l, at' => by
    rw [betL]
    have h1 := betL_len lo hi l (t + 1)
    have h2 := betL_len lo hi l at'
    split <;> simp <;> omega
theorem betL_in (lo hi n : Int) : ∀ (l : List Int) (at' : Int), l.Pairwise (· < ·) → lo < at' → (∀ t ∈ l, lo < t → t ≤ hi → at' ≤ t) → ((betL lo hi at' l).any (inB_R n) = true ↔ (at' ≤ n ∧ n ≤ hi) ∧ n ∉ l)
  | [], at', _, _, _ => by rw [betL]; simp [inB_R]
  | t :: l, at', hp, ha, hb => by
    obtain ⟨h1, h2⟩ := List.pairwise_cons.1 hp
    rw [betL]
    split
    · rename_i ht
      have hat := hb t (by simp) ht.1 ht.2
      rw [any_cons, betL_in lo hi n l (t + 1) h2 (by omega) (fun u hu _ _ => by have := h1 u hu; omega), List.mem_cons, not_or]
      constructor
      · rintro (h | h)
        · refine ⟨⟨h.1, ?_⟩, ?_, fun hm => ?_⟩
          · have := h.2; simp at this; omega
          · have := h.2; simp at this; omega
          · have := h1 n hm; have := h.2; simp at this; omega
        · exact ⟨⟨by omega, h.1.2⟩, by omega, h.2⟩
      · rintro ⟨h3, h4, h5⟩
        by_cases hc : n < t
        · exact Or.inl ⟨h3.1, by simp; omega⟩
        · exact Or.inr ⟨⟨by omega, h3.2⟩, h5⟩
    · rename_i ht
      rw [betL_in lo hi n l at' h2 ha (fun u hu => hb u (by simp [hu])), List.mem_cons, not_or]
      constructor
      · rintro ⟨h3, h4⟩
        exact ⟨h3, by omega, h4⟩
      · rintro ⟨h3, h4, h5⟩
        exact ⟨h3, h5⟩
theorem betL_hi (lo hi : Int) : ∀ (l : List Int) (at' : Int), ∀ x ∈ betL lo hi at' l, x.2 ≤ hi
  | [], at', x, hx => by rw [betL] at hx; simp at hx; subst hx; exact Int.le_refl _
  | t :: l, at', x, hx => by
    rw [betL] at hx
    split at hx
    · rename_i h
      rcases List.mem_cons.1 hx with rfl | hx
      · show t - 1 ≤ hi; omega
      · exact betL_hi lo hi l _ x hx
    · exact betL_hi lo hi l _ x hx
/-- The ranges that are told, above the base. -/
def moreK (base lo hi : Int) (told : List Int) : Array (Int × Int) := ((betL lo hi (lo + 1) told).map fun r => (max r.1 (base + 1), r.2)).toArray
theorem moreK_in (base lo hi n : Int) (told : List Int) (hp : told.Pairwise (· < ·)) : inR (moreK base lo hi told) n = true ↔ (max lo base < n ∧ n ≤ hi) ∧ n ∉ told := by
  have e : inR (moreK base lo hi told) n = true ↔ base < n ∧ (betL lo hi (lo + 1) told).any (inB_R n) = true := by
    unfold moreK inR
    simp only [List.any_map, List.any_eq_true, Function.comp, inB_iff]
    constructor
    · rintro ⟨x, hx, h1, h2⟩
      exact ⟨by omega, x, hx, by omega, h2⟩
    · rintro ⟨h0, x, hx, h1, h2⟩
      exact ⟨x, hx, by omega, h2⟩
  rw [e, betL_in lo hi n told (lo + 1) hp (by omega) (fun t _ h _ => by omega)]
  constructor
  · rintro ⟨h0, ⟨h1, h2⟩, h3⟩
    exact ⟨⟨by omega, h2⟩, h3⟩
  · rintro ⟨⟨h1, h2⟩, h3⟩
    exact ⟨by omega, ⟨by omega, h2⟩, h3⟩
/-- What is known behind promises that are told. -/
def pK (k : KN) (lo hi : Int) (atts : Array (Int × Int)) (n : Int) : Bool := inR k.rs n || (decide (max lo k.base < n ∧ n ≤ hi) && !(timesL atts.toList).contains n && !(timesL k.ats.toList).contains n)
theorem pK_iff {k : KN} {lo hi : Int} {atts : Array (Int × Int)} {n : Int} : pK k lo hi atts n = true ↔ inR k.rs n = true ∨ ((max lo k.base < n ∧ n ≤ hi) ∧ n ∉ timesL atts.toList ∧ n ∉ timesL k.ats.toList) := by
  unfold pK
  simp [and_assoc]
def freshK (k : KN) (atts : Array (Int × Int)) : Array (Int × Int) := (atts.toList.filter fun a => !(decide (a.1 ≤ k.base) || inR k.rs a.1)).toArray
def allK (k : KN) (atts : Array (Int × Int)) : Array (Int × Int) := mrgK k.ats (freshK k atts)
theorem fresh_mem {k : KN} {atts : Array (Int × Int)} {x : Int × Int} : x ∈ (freshK k atts).toList ↔ x ∈ atts.toList ∧ k.base < x.1 ∧ inR k.rs x.1 = false := by
  unfold freshK
  simp
theorem allK_size (k : KN) (atts : Array (Int × Int)) : (allK k atts).size ≤ k.ats.size + atts.size := by
  have h1 := mrgK_size k.ats (freshK k atts)
  have h2 : (freshK k atts).size ≤ atts.size := by
    unfold freshK
    have := List.length_filter_le (fun a : Int × Int => !(decide (a.1 ≤ k.base) || inR k.rs a.1)) atts.toList
    simpa using this
  unfold allK
  omega
/-- What is told that no command stands at, is just what comes to what is known. -/
theorem more_p {k : KN} {lo hi : Int} {atts : Array (Int × Int)} (hk : ChkP k) (h1 : hi ≤ 1000000) (ha : riseL hi lo atts.toList = true) (n : Int) :
    pAdd k.rs (moreK k.base lo hi (timesL (mrgK atts k.ats).toList)) n = pK k lo hi atts n := by
  have hu := mrgK_up ((riseL_iff _ _ _).1 ha).1 ((riseL_iff _ _ _).1 hk.up).1
  have hp : (timesL (mrgK atts k.ats).toList).Pairwise (· < ·) := List.pairwise_map.2 hu
  rw [Bool.eq_iff_iff, pK_iff]
  unfold pAdd
  rw [Bool.and_eq_true, Bool.or_eq_true, may1_iff, moreK_in _ _ _ _ _ hp, mrgK_times, not_or]
  have hb := hk.b0
  constructor
  · rintro ⟨_, h⟩
    exact h
  · intro h
    refine ⟨?_, h⟩
    rcases h with h | h
    · exact inR_may (NL.of_set hk.rs) h
    · omega

/-! the one form -/
def cutL (b : Int) : List (Int × Int) → List (Int × Int)
  | [] => []
  | x :: l => if x.2 ≤ b then cutL b l else (max x.1 (b + 1), x.2) :: l
theorem cutL_len (b : Int) : ∀ l, (cutL b l).length ≤ l.length
  | [] => Nat.le_refl _
  | x :: l => by
    rw [cutL]
    have := cutL_len b l
    split
    · simp; omega
    · simp
theorem cutL_ok {b : Int} (hb : 0 ≤ b) : ∀ {l : List (Int × Int)}, NL l → NL (cutL b l) ∧ ∀ n, (cutL b l).any (inB_R n) = (l.any (inB_R n) && decide (b < n))
  | [], _ => ⟨⟨by simp [cutL], by simp [cutL]⟩, by simp [cutL]⟩
  | x :: l, h => by
    rw [cutL]
    have hx := h.1 x (by simp)
    have hgt := (List.pairwise_cons.1 h.2).1
    split
    · rename_i hc
      obtain ⟨h1, h2⟩ := cutL_ok hb h.tail
      refine ⟨h1, fun n => ?_⟩
      rw [h2 n, Bool.eq_iff_iff, Bool.and_eq_true, Bool.and_eq_true, any_cons, decide_eq_true_eq]
      constructor
      · rintro ⟨h3, h4⟩
        exact ⟨Or.inr h3, h4⟩
      · rintro ⟨h3 | h3, h4⟩
        · omega
        · exact ⟨h3, h4⟩
    · rename_i hc
      refine ⟨⟨fun y hy => ?_, List.pairwise_cons.2 ⟨fun y hy => hgt y hy, (List.pairwise_cons.1 h.2).2⟩⟩, fun n => ?_⟩
      · rcases List.mem_cons.1 hy with rfl | hy
        · show 1 ≤ max x.1 (b + 1) ∧ max x.1 (b + 1) ≤ x.2 ∧ x.2 ≤ 1000000
          omega
        · exact h.1 y (by simp [hy])
      · rw [Bool.eq_iff_iff, Bool.and_eq_true, any_cons, any_cons, decide_eq_true_eq]
        constructor
        · rintro (h3 | h3)
          · have h4 : max x.1 (b + 1) ≤ n := h3.1
            exact ⟨Or.inl ⟨by omega, h3.2⟩, by omega⟩
          · have := h.gt h3
            exact ⟨Or.inr h3, by omega⟩
        · rintro ⟨h3 | h3, h4⟩
          · exact Or.inl ⟨show max x.1 (b + 1) ≤ n by omega, h3.2⟩
          · exact Or.inr h3
theorem less_cut {d out : Array (Int × Int)} {b : Int} (hs : setE_R d = 0) (hb : 0 ≤ b) (h : LessE d (1, b) out) : IsN (fun n => inR d n && decide (b < n)) out ∧ out.size ≤ d.size := by
  obtain ⟨s, h1, h2⟩ := h.1 hs
  have hn := NL.of_set hs
  have hc := cutL_ok hb hn
  have h3 : IsN (fun n => inR d n && decide (b < n)) (cutL b d.toList).toArray := ⟨hc.1, fun n => hc.2 n⟩
  have h4 : IsN (fun n => inR d n && decide (b < n)) s := h1.congr fun n => by
    unfold pLess
    by_cases hi : inR d n = true
    · have := inR_may hn hi
      rw [hi, Bool.eq_iff_iff]
      simp [inB_R]
      omega
    · rw [Bool.not_eq_true] at hi
      rw [hi]; rfl
  have h5 : s = (cutL b d.toList).toArray := h4.uniq h3
  have h6 : s.size ≤ d.size := by
    rw [h5]
    have := cutL_len b d.toList
    simpa using this
  have h7 := (setE_all hs).1
  rw [if_pos (by omega)] at h2
  subst h2
  exact ⟨h4, h6⟩
/-- r is the one form of the set l, above base, with what is attached. -/
structure FormR (l : Array (Int × Int)) (base : Int) (ats : Array (Int × Int)) (r : KN) : Prop where
  b : r.base = preE l base
  rs : LessE l (1, r.base) r.rs
  at' : r.ats = ats
theorem FormR.uniq {l : Array (Int × Int)} {base : Int} {ats : Array (Int × Int)} {r s : KN} (h : FormR l base ats r) (k : FormR l base ats s) : r = s := by
  obtain ⟨rb, rr, ra⟩ := r
  obtain ⟨sb, sr, sa⟩ := s
  have e1 : rb = sb := h.b.trans k.b.symm
  subst e1
  have e2 : rr = sr := h.rs.uniq k.rs
  have e3 : ra = sa := h.at'.trans k.at'.symm
  rw [e2, e3]
structure FormO (l : Array (Int × Int)) (base : Int) (ats : Array (Int × Int)) (r : KN) : Prop where
  chk : ChkP r
  up : base ≤ r.base
  sz : r.rs.size ≤ l.size
  eat : r.ats = ats
  has : ∀ n, hasK r n = true ↔ (1 ≤ n ∧ n ≤ base) ∨ inR l n = true
  gt : ∀ a ∈ ats.toList, r.base < a.1
  out : ∀ n, inR r.rs n = (inR l n && decide (r.base < n))
  nx : inR l (r.base + 1) = false
theorem FormR.ok {l : Array (Int × Int)} {base : Int} {ats : Array (Int × Int)} {r : KN} (h : FormR l base ats r) (hs : setE_R l = 0) (b0 : 0 ≤ base) (b1 : base ≤ 1000000) (hz : ats.size ≤ 400) (hu : riseL 1000000 base ats.toList = true) (ho : ∀ a ∈ ats.toList, inR l a.1 = false) : FormO l base ats r := by
  obtain ⟨p1, p2, p3, p4⟩ := pre_has hs base
  rw [← h.b] at p1 p2 p3 p4
  have hN := NL.of_set hs
  obtain ⟨q1, q2⟩ := less_cut hs (by omega) h.rs
  have hl := (setE_all hs).1
  have hset : setE_R r.rs = 0 := q1.set (by omega)
  have hr := (riseL_iff _ _ _).1 hu
  have hgt : ∀ a ∈ ats.toList, r.base < a.1 := fun a ha => by
    have h1 := ho a ha
    have h2 := hr.2 a ha
    by_cases hc : r.base < a.1
    · exact hc
    · have := p3 a.1 h2.1 (by omega)
      rw [h1] at this
      cases this
  have hout : ∀ n, inR r.rs n = (inR l n && decide (r.base < n)) := q1.2
  have hck : ChkP r := by
    refine ⟨by omega, by omega, hset, by rw [h.at']; exact hz, ?_, fun h0 => ?_, fun a ha => ?_⟩
    · rw [h.at']
      exact (riseL_iff _ _ _).2 ⟨hr.1, fun x hx => ⟨hgt x hx, (hr.2 x hx).2⟩⟩
    · have h1 := ok_at hset h0
      have h2 : inR r.rs r.rs[0]!.1 = true := inR_yes h0 (by unfold inB_R; simp; omega)
      rw [hout, Bool.and_eq_true, decide_eq_true_eq] at h2
      by_cases hc : r.rs[0]!.1 = r.base + 1
      · rw [hc, p4] at h2
        cases h2.1
      · omega
    · rw [h.at'] at ha
      rw [hout, ho a ha]
      rfl
  refine ⟨hck, p1, q2, h.at', fun n => ?_, hgt, hout, p4⟩
  rw [hasK_iff hck, hout, Bool.and_eq_true, decide_eq_true_eq]
  constructor
  · rintro (h1 | h1)
    · by_cases hc : n ≤ base
      · exact Or.inl ⟨h1.1, hc⟩
      · exact Or.inr (p3 n (by omega) h1.2)
    · exact Or.inr h1.1
  · rintro (h1 | h1)
    · exact Or.inl ⟨h1.1, by omega⟩
    · by_cases hc : r.base < n
      · exact Or.inr ⟨h1, hc⟩
      · exact Or.inl ⟨(inR_may hN h1).1, by omega⟩

/-! what is added -/
def AddR (k : KN) (lo hi : Int) (atts : Array (Int × Int)) (r : KN) : Prop := ∃ l, IsN (pK k lo hi atts) l ∧ l.size ≤ 1000 ∧ FormR l k.base (allK k atts) r
theorem AddR.uniq {k : KN} {lo hi : Int} {atts : Array (Int × Int)} {r s : KN} (h : AddR k lo hi atts r) (g : AddR k lo hi atts s) : r = s := by
  obtain ⟨l, h1, _, h2⟩ := h
  obtain ⟨m, g1, _, g2⟩ := g
  have := h1.uniq g1
  subst this
  exact h2.uniq g2
structure AddA (k : KN) (lo hi : Int) (atts : Array (Int × Int)) : Prop where
  chk : ChkP k
  lo0 : 0 ≤ lo
  le : lo ≤ hi
  hi1 : hi ≤ 1000000
  up : riseL hi lo atts.toList = true
def addB (k : KN) (lo hi : Int) (atts : Array (Int × Int)) : Bool := chkB k && decide (0 ≤ lo ∧ lo ≤ hi ∧ hi ≤ 1000000) && riseL hi lo atts.toList
theorem add_iff {k : KN} {lo hi : Int} {atts : Array (Int × Int)} : addB k lo hi atts = true ↔ AddA k lo hi atts := by
  unfold addB
  rw [Bool.and_eq_true, Bool.and_eq_true, decide_eq_true_eq, chk_iff]
  constructor
  · rintro ⟨⟨h1, h2, h3, h4⟩, h5⟩
    exact ⟨h1, h2, h3, h4, h5⟩
  · rintro ⟨h1, h2, h3, h4, h5⟩
    exact ⟨⟨h1, h2, h3, h4⟩, h5⟩
theorem allK_mem {k : KN} {atts : Array (Int × Int)} {x : Int × Int} : x ∈ (allK k atts).toList ↔ x ∈ k.ats.toList ∨ (x ∈ atts.toList ∧ k.base < x.1 ∧ inR k.rs x.1 = false ∧ x.1 ∉ timesL k.ats.toList) := by
  unfold allK
  rw [mrgK_mem, fresh_mem]
  simp [and_assoc]
theorem allK_up {k : KN} {lo hi : Int} {atts : Array (Int × Int)} (h : AddA k lo hi atts) : riseL 1000000 k.base (allK k atts).toList = true := by
  have h1 := (riseL_iff _ _ _).1 h.chk.up
  have h2 := (riseL_iff _ _ _).1 h.up
  have hh := h.hi1
  refine (riseL_iff _ _ _).2 ⟨?_, fun x hx => ?_⟩
  · unfold allK
    refine mrgK_up h1.1 ?_
    show (List.filter _ _).Pairwise _
    exact h2.1.filter _
  · rcases allK_mem.1 hx with hx | ⟨hx, hb, _, _⟩
    · exact h1.2 x hx
    · have := h2.2 x hx
      exact ⟨hb, by omega, this.2.2⟩
theorem allK_out {k : KN} {lo hi : Int} {atts : Array (Int × Int)} (h : AddA k lo hi atts) : ∀ a ∈ (allK k atts).toList, pK k lo hi atts a.1 = false := fun a ha => by
  rw [Bool.eq_false_iff, Ne, pK_iff]
  rintro (h1 | ⟨_, h1, h2⟩)
  · rcases allK_mem.1 ha with hx | ⟨_, _, hx, _⟩
    · rw [h.chk.out a hx] at h1; cases h1
    · rw [hx] at h1; cases h1
  · rcases allK_mem.1 ha with hx | ⟨hx, _⟩
    · exact h2 (List.mem_map.2 ⟨a, hx, rfl⟩)
    · exact h1 (List.mem_map.2 ⟨a, hx, rfl⟩)
theorem AddR.ok {k r : KN} {lo hi : Int} {atts : Array (Int × Int)} (h : AddA k lo hi atts) (hr : AddR k lo hi atts r) (hz : k.ats.size + atts.size ≤ 400) : ∃ l, IsN (pK k lo hi atts) l ∧ l.size ≤ 1000 ∧ FormO l k.base (allK k atts) r := by
  obtain ⟨l, h1, h2, h3⟩ := hr
  have := allK_size k atts
  exact ⟨l, h1, h2, h3.ok (h1.set h2) h.chk.b0 h.chk.b1 (by omega) (allK_up h) (fun a ha => (h1.2 a.1).trans (allK_out h a ha))⟩
/-! what is settled -/
def doneK (ids : Array Int) (a : Int × Int) : Bool := ids.toList.contains a.2
def stayK (k : KN) (ids : Array Int) : Array (Int × Int) := (k.ats.toList.filter fun a => !doneK ids a).toArray
def pS (k : KN) (ids : Array Int) (n : Int) : Bool := inR k.rs n || k.ats.toList.any fun a => doneK ids a && (a.1 == n)
def setlK (k : KN) (ids : Array Int) : Array (Int × Int) := ((k.ats.toList.filter (doneK ids)).map fun a => (a.1, a.1)).toArray
def SetR (k : KN) (ids : Array Int) (r : KN) : Prop := ∃ l, IsN (pS k ids) l ∧ l.size ≤ 1000 ∧ FormR l k.base (stayK k ids) r
theorem SetR.uniq {k : KN} {ids : Array Int} {r s : KN} (h : SetR k ids r) (g : SetR k ids s) : r = s := by
  obtain ⟨l, h1, _, h2⟩ := h
  obtain ⟨m, g1, _, g2⟩ := g
  have := h1.uniq g1
  subst this
  exact h2.uniq g2
theorem pS_iff {k : KN} {ids : Array Int} {n : Int} : pS k ids n = true ↔ inR k.rs n = true ∨ ∃ a ∈ k.ats.toList, a.2 ∈ ids.toList ∧ a.1 = n := by
  unfold pS doneK
  simp only [Bool.or_eq_true, List.any_eq_true, Bool.and_eq_true, List.contains_iff_mem, beq_iff_eq]
theorem setl_p {k : KN} {ids : Array Int} (hk : ChkP k) (n : Int) : pAdd k.rs (setlK k ids) n = pS k ids n := by
  have hr := (riseL_iff _ _ _).1 hk.up
  have hb := hk.b0
  have e : inR (setlK k ids) n = true ↔ ∃ a ∈ k.ats.toList, a.2 ∈ ids.toList ∧ a.1 = n := by
    unfold setlK inR doneK
    simp only [List.any_map, List.any_eq_true, Function.comp, inB_iff, List.mem_filter, List.contains_iff_mem]
    constructor
    · rintro ⟨x, ⟨hx, h1⟩, h2, h3⟩
      exact ⟨x, hx, h1, by omega⟩
    · rintro ⟨x, hx, h1, rfl⟩
      exact ⟨x, ⟨hx, h1⟩, Int.le_refl _, Int.le_refl _⟩
  rw [Bool.eq_iff_iff, pS_iff, ← e]
  unfold pAdd
  rw [Bool.and_eq_true, Bool.or_eq_true, may1_iff]
  refine ⟨fun h => h.2, fun h => ⟨?_, h⟩⟩
  rcases h with h | h
  · exact inR_may (NL.of_set hk.rs) h
  · obtain ⟨a, ha, _, rfl⟩ := e.1 h
    have := hr.2 a ha
    omega
theorem SetR.ok {k r : KN} {ids : Array Int} (h : ChkP k) (hr : SetR k ids r) : ∃ l, IsN (pS k ids) l ∧ l.size ≤ 1000 ∧ FormO l k.base (stayK k ids) r := by
  obtain ⟨l, h1, h2, h3⟩ := hr
  have hu := (riseL_iff _ _ _).1 h.up
  have hz : (stayK k ids).size ≤ 400 := by
    have h4 := List.length_filter_le (fun a => !doneK ids a) k.ats.toList
    have h5 := h.sz
    unfold stayK
    simp at h4 ⊢
    omega
  refine ⟨l, h1, h2, h3.ok (h1.set h2) h.b0 h.b1 hz ?_ ?_⟩
  · refine (riseL_iff _ _ _).2 ⟨hu.1.filter _, fun x hx => hu.2 x (List.mem_filter.1 hx).1⟩
  · intro a ha
    obtain ⟨h4, h5⟩ := List.mem_filter.1 (show a ∈ k.ats.toList.filter _ from ha)
    rw [h1.2, Bool.eq_false_iff, Ne, pS_iff]
    rintro (h6 | ⟨x, hx, h7, h8⟩)
    · rw [h.out a h4] at h6; cases h6
    · have hxa : x = a := up_inj hu.1 hx h4 h8
      subst hxa
      simp [doneK] at h5
      exact h5 (by simpa using h7)
end Go.Proofs.YtnmojicfmcbgmaaGreat
namespace Go.Proofs.YtnmojicfmcbgmaaGreat
open Go.RowKit Go.Sort Go.Lib

theorem drop_arr_K {α : Type} [Inhabited α] (d : Array α) (k : Nat) (h : k < d.size) : d.toList.drop k = d[k]! :: d.toList.drop (k + 1) := by
  rw [List.drop_eq_getElem_cons (by simpa using h), getElem!_pos d k h]; rfl
theorem checkE_okI (id : Int) : checkE id = if okI id = true then 0 else 31 := by
  unfold checkE okI
  by_cases h : id < 10 ∨ 999999 < id ∨ id % 10 = 0
  · rw [if_pos h, if_neg (by simp; omega)]
  · rw [if_neg h, if_pos (by simp; omega)]
theorem checkE_neI (id : Int) : (checkE id != 0) = !okI id := by rw [checkE_okI]; cases okI id <;> rfl
/-- rise, at a round's head. -/
def RiseR (lo hi : Int) (d : Array (Int × Int)) (w : World) (lv iv : Value) (wr : World) : Prop := ∃ (k : Nat) (last : Int), iv = .int .i64 (k : Int) ∧ lv = .int .i64 last ∧ k ≤ d.size ∧ riseL hi lo d.toList = riseL hi last (d.toList.drop k) ∧ Below w.heap.size w wr
set_option maxRecDepth 100000 in
set_option maxHeartbeats 1000000 in
theorem rise_any (A : Option Addr) (c : Nat) (d : Array (Int × Int)) (lo hi : Int) (w : World) (h : RdK encA_I 2 w.heap.size w A d) (hs : d.size ≤ 1000000) :
    Calls Tryz.prog 101 #[.slice A d.size c, .int .i64 lo, .int .i64 hi] w fun e w' => e = .returned (.bool (riseL hi lo d.toList)) ∧ Below w.heap.size w w' := by
  have HR := Lib.hid h
  clear h
  go_enter Tryz.func101, Tryz.ntmps101
  go_wp2
  go_loopw [7, 13] (fun lv iv wr => RiseR lo hi d w lv iv wr) (fun _ i _ => d.size - (intOf i).toNat)
  case atStart => exact ⟨0, lo, rfl, rfl, Nat.zero_le _, rfl, Below.refl _ _⟩
  case round =>
    obtain ⟨k, last, rfl, rfl, hk, hat, hB⟩ := hrel
    have HAT := Lib.hid hat
    have HB := Lib.hid hB
    clear hat hB
    by_cases hlt : k < d.size
    · have kz : (k : Int) < (d.size : Int) := by omega
      obtain ⟨b, off, rfl, hbl, f⟩ := (HR.out.below HB.out).at_ hlt
      have e0 := f 0 (by omega)
      have e1 := f 1 (by omega)
      have HD := Lib.hid (drop_arr_K d k hlt)
      generalize d[k]! = x at e0 e1 HD
      simp only [Nat.add_zero, encA_I, List.getElem!_cons_zero, List.getElem!_cons_succ] at e0 e1
      clear f
      have HI := Lib.hid (fun W => Check_any_I x.2 W)
      have hne := checkE_neI x.2
      cases hid : okI x.2
      · rw [hid] at hne
        have HF : Hid (riseL hi lo d.toList = false) := by show _ = _; rw [HAT.out, HD.out]; simp [riseL, hid]
        clear hid
        go_wp2_with (go_at_call 86; refine (HI.out _).mono ?_; rintro e w' ⟨rfl, rfl⟩)
        all_goals
          go_ret
          exact ⟨ret_bool (by rw [HF.out]), belAlloc HB.out _⟩
      · rw [hid] at hne
        by_cases hr : last < x.1 ∧ x.1 ≤ hi
        · have h1 : decide (x.1 ≤ last) = false := by simp; omega
          have h2 : decide (hi < x.1) = false := by simp; omega
          have HN : Hid (riseL hi lo d.toList = riseL hi x.1 (d.toList.drop (k + 1))) := by show _ = _; rw [HAT.out, HD.out]; simp [riseL, hid, hr]
          clear hid hr
          go_wp2_with (go_at_call 86; refine (HI.out _).mono ?_; rintro e w' ⟨rfl, rfl⟩)
          go_roundw
          case rel => exact ⟨k + 1, x.1, by go_num, rfl, by omega, HN.out, belAlloc HB.out _⟩
          case measure => simp [intOf]; omega
        · have HF : Hid (riseL hi lo d.toList = false) := by show _ = _; rw [HAT.out, HD.out]; simp [riseL]; intro h1 h2; omega
          clear hid
          by_cases h1 : x.1 ≤ last
          · clear hr
            go_wp2
            go_ret
            exact ⟨ret_bool (by rw [HF.out]), belAlloc HB.out _⟩
          · have h2 : hi < x.1 := by omega
            have h1' : decide (x.1 ≤ last) = false := by simp; omega
            clear hr h1
            go_wp2
            go_ret
            exact ⟨ret_bool (by rw [HF.out]), belAlloc HB.out _⟩
    · have hlt' : decide ((k : Int) < (d.size : Int)) = false := by simp; omega
      have HE : Hid (riseL hi lo d.toList = true) := by
        show _ = _
        rw [HAT.out, List.drop_of_length_le (by simp; omega)]; rfl
      go_wp2
      go_ret
      exact ⟨ret_bool HE.out.symm, HB.out⟩
theorem selfN_okI (id : Int) : (selfN_I id == 0) = !okI id := by
  unfold selfN_I okI
  by_cases h : id < 10 ∨ 999999 < id ∨ id % 10 = 0
  · rw [if_pos h]
    have : decide (10 ≤ id ∧ id ≤ 999999 ∧ id % 10 ≠ 0) = false := by simp; omega
    rw [this]; rfl
  · rw [if_neg h]
    have : decide (10 ≤ id ∧ id ≤ 999999 ∧ id % 10 ≠ 0) = true := by simp; omega
    rw [this]; simp; omega
/-- rubatoref16.rise, at a round's head. -/
def AtR_K (lo hi : Int) (d : Array (Int × Int)) (w : World) (iv : Value) (wr : World) : Prop := ∃ (k : Nat) (last : Int), iv = .int .i64 (k : Int) ∧ k ≤ d.size ∧ (k = 0 → last = lo) ∧ (∀ j, j + 1 = k → last = d[j]!.1) ∧ lo ≤ last ∧ riseL hi lo d.toList = riseL hi last (d.toList.drop k) ∧ Below w.heap.size w wr
set_option maxRecDepth 100000 in
set_option maxHeartbeats 8000000 in
theorem rRise_any (A : Option Addr) (c : Nat) (d : Array (Int × Int)) (lo hi : Int) (w : World) (h : RdK encA_I 2 w.heap.size w A d) (hs : d.size ≤ 1000000) :
    Calls Tryz.prog 89 #[.slice A d.size c, .int .i64 lo, .int .i64 hi] w fun e w' => e = .returned (.bool (riseL hi lo d.toList)) ∧ Below w.heap.size w w' := by
  have HR := Lib.hid h
  clear h
  go_enter Tryz.func89, Tryz.ntmps89
  go_wp2
  go_loopw [7] (fun i wr => AtR_K lo hi d w i wr) (fun i _ => d.size - (intOf i).toNat)
  case atStart => exact ⟨0, lo, rfl, Nat.zero_le _, (fun _ => rfl), (fun j hj => by omega), by omega, rfl, Below.refl _ _⟩
  case round =>
    obtain ⟨n, last, rfl, hn, hl0, hl1, hll, hat, hB⟩ := hrel
    have HAT := Lib.hid hat
    have HB := Lib.hid hB
    have HL0 := Lib.hid hl0
    have HL1 := Lib.hid hl1
    clear hat hB hl0 hl1
    by_cases hlt2 : n < d.size
    · have nz : (n : Int) < (d.size : Int) := by omega
      obtain ⟨b, off, rfl, hbl, f⟩ := (HR.out.below HB.out).at_ hlt2
      have e0 := f 0 (by omega)
      have e1 := f 1 (by omega)
      have HD := Lib.hid (drop_arr_K d n hlt2)
      have hbw : b < wr.heap.size := Nat.lt_of_lt_of_le hbl HB.out.size
      obtain ⟨x, hx⟩ : ∃ x, d[n]! = x := ⟨_, rfl⟩
      rw [hx] at e0 e1 HD
      have HX := Lib.hid hx
      simp only [Nat.add_zero, encA_I, List.getElem!_cons_zero, List.getElem!_cons_succ] at e0 e1
      have q0 : ∀ p : ExtW wr, p.to.cell? ⟨b, off + n * 2, none⟩ = some (.int .i64 x.1) := fun p => (p.h.cell (p := ⟨b, off + n * 2, none⟩) hbw).trans e0
      have HSP := Lib.hid (fun W => rSplit_any_I x.2 W)
      have z0 := selfN_okI x.2
      clear f hx e0
      cases hid : okI x.2
      · rw [hid] at z0
        simp only [Bool.not_false] at z0
        have HF : Hid (riseL hi lo d.toList = false) := by show _ = _; rw [HAT.out, HD.out]; simp [riseL, hid]
        clear hid
        generalize selfN_I x.2 = sf at z0 HSP
        go_wp2_with (go_at_call 36; refine (HSP.out _).mono ?_; rintro e w' ⟨rfl, rfl⟩)
        refine wp_region_ext (by kernel_rfl) (by kernel_rfl) ?_
        repeat (first | go_big_quiet_step (fail) | quiet_step (fail))
        refine wpQuiet_nil ?_
        intro w' hw'
        obtain ⟨⟨W, hbW⟩, hw''⟩ := hw'
        have hw3 : w' = W := hw''
        subst hw3
        have HBW := Lib.hid (belStep HB.out hbW)
        clear hbW hw''
        go_wp2
        go_ret
        exact ⟨ret_bool (by rw [HF.out]), HBW.out⟩
      · rw [hid] at z0
        simp only [Bool.not_true] at z0
        by_cases g1 : x.1 ≤ lo
        · have HF : Hid (riseL hi lo d.toList = false) := by show _ = _; rw [HAT.out, HD.out]; simp [riseL]; intro h1 h2; omega
          have g1' : decide (x.1 ≤ lo) = true := by simp; omega
          clear hid
          generalize selfN_I x.2 = sf at z0 HSP
          go_wp2_with (go_at_call 36; refine (HSP.out _).mono ?_; rintro e w' ⟨rfl, rfl⟩)
          refine wp_region_ext (by kernel_rfl) (by kernel_rfl) ?_
          repeat (first | go_big_quiet_step (fail) | quiet_step (fail))
          refine wpQuiet_nil ?_
          intro w' hw'
          obtain ⟨⟨W, hbW⟩, hw''⟩ := hw'
          have hw3 : w' = W := hw''
          subst hw3
          have HBW := Lib.hid (belStep HB.out hbW)
          clear hbW hw''
          go_wp2
          go_ret
          exact ⟨ret_bool (by rw [HF.out]), HBW.out⟩
        · have g1' : decide (x.1 ≤ lo) = false := by simp; omega
          by_cases g2 : hi < x.1
          · have HF : Hid (riseL hi lo d.toList = false) := by show _ = _; rw [HAT.out, HD.out]; simp [riseL]; intro h1 h2; omega
            have g2' : decide (hi < x.1) = true := by simp; omega
            clear hid g1
            generalize selfN_I x.2 = sf at z0 HSP
            go_wp2_with (go_at_call 36; refine (HSP.out _).mono ?_; rintro e w' ⟨rfl, rfl⟩)
            refine wp_region_ext (by kernel_rfl) (by kernel_rfl) ?_
            repeat (first | go_big_quiet_step (fail) | quiet_step (fail))
            refine wpQuiet_nil ?_
            intro w' hw'
            obtain ⟨⟨W, hbW⟩, hw''⟩ := hw'
            have hw3 : w' = W := hw''
            subst hw3
            have HBW := Lib.hid (belStep HB.out hbW)
            clear hbW hw''
            go_wp2
            go_ret
            exact ⟨ret_bool (by rw [HF.out]), HBW.out⟩
          · have g2' : decide (hi < x.1) = false := by simp; omega
            by_cases g0 : 0 < n
            · obtain ⟨n', hn'⟩ : ∃ n', n' + 1 = n := ⟨n - 1, by omega⟩
              have g0' : decide ((0 : Int) < (n : Int)) = true := by simp; omega
              have hsub : (n : Int) - 1 = (n' : Int) := by omega
              have nz' : (n' : Int) < (d.size : Int) := by omega
              obtain ⟨b', off', e', hbl', f'⟩ := (HR.out.below HB.out).at_ (i := n') (by omega)
              injection e' with e'
              injection e' with eb eo
              subst eb eo
              have u0 := f' 0 (by omega)
              have hlast := HL1.out n' hn'
              simp only [Nat.add_zero, encA_I, List.getElem!_cons_zero] at u0
              rw [← hlast] at u0
              have q2 : ∀ p : ExtW wr, p.to.cell? ⟨b, off + n' * 2, none⟩ = some (.int .i64 last) := fun p => (p.h.cell (p := ⟨b, off + n' * 2, none⟩) hbw).trans u0
              clear f' u0 hlast
              by_cases g3 : x.1 ≤ last
              · have HF : Hid (riseL hi lo d.toList = false) := by show _ = _; rw [HAT.out, HD.out]; simp [riseL]; intro h1 h2; omega
                have g3' : decide (x.1 ≤ last) = true := by simp; omega
                clear hid g1 g2 hn'
                generalize selfN_I x.2 = sf at z0 HSP
                go_wp2_with (go_at_call 36; refine (HSP.out _).mono ?_; rintro e w' ⟨rfl, rfl⟩)
                refine wp_region_ext (by kernel_rfl) (by kernel_rfl) ?_
                repeat (first | go_big_quiet_step (fail) | quiet_step (fail))
                refine wpQuiet_nil ?_
                intro w' hw'
                obtain ⟨⟨W, hbW⟩, hw''⟩ := hw'
                have hw3 : w' = W := hw''
                subst hw3
                have HBW := Lib.hid (belStep HB.out hbW)
                clear hbW hw''
                go_wp2
                go_ret
                exact ⟨ret_bool (by rw [HF.out]), HBW.out⟩
              · have HN : Hid (riseL hi lo d.toList = riseL hi x.1 (d.toList.drop (n + 1))) := by show _ = _; rw [HAT.out, HD.out]; simp [riseL, hid]; intro h; omega
                have g3' : decide (x.1 ≤ last) = false := by simp; omega
                clear hid hn'
                generalize selfN_I x.2 = sf at z0 HSP
                go_wp2_with (go_at_call 36; refine (HSP.out _).mono ?_; rintro e w' ⟨rfl, rfl⟩)
                refine wp_region_ext (by kernel_rfl) (by kernel_rfl) ?_
                repeat (first | go_big_quiet_step (fail) | quiet_step (fail))
                refine wpQuiet_nil ?_
                intro w' hw'
                obtain ⟨⟨W, hbW⟩, hw''⟩ := hw'
                have hw3 : w' = W := hw''
                subst hw3
                have HBW := Lib.hid (belStep HB.out hbW)
                clear hbW hw''
                go_wp2
                go_roundw
                case rel => exact ⟨n + 1, x.1, by go_num, by omega, (fun h => by omega), (fun j hj => by have e : j = n := (by omega); rw [e, HX.out]), by omega, HN.out, HBW.out⟩
                case measure => simp [intOf]; omega
            · have g0' : decide ((0 : Int) < (n : Int)) = false := by simp; omega
              have hlast := HL0.out (by omega)
              have HN : Hid (riseL hi lo d.toList = riseL hi x.1 (d.toList.drop (n + 1))) := by show _ = _; rw [HAT.out, HD.out]; simp [riseL, hid]; intro h; omega
              clear hid hlast
              generalize selfN_I x.2 = sf at z0 HSP
              go_wp2_with (go_at_call 36; refine (HSP.out _).mono ?_; rintro e w' ⟨rfl, rfl⟩)
              refine wp_region_ext (by kernel_rfl) (by kernel_rfl) ?_
              repeat (first | go_big_quiet_step (fail) | quiet_step (fail))
              refine wpQuiet_nil ?_
              intro w' hw'
              obtain ⟨⟨W, hbW⟩, hw''⟩ := hw'
              have hw3 : w' = W := hw''
              subst hw3
              have HBW := Lib.hid (belStep HB.out hbW)
              clear hbW hw''
              go_wp2
              go_roundw
              case rel => exact ⟨n + 1, x.1, by go_num, by omega, (fun h => by omega), (fun j hj => by have e : j = n := (by omega); rw [e, HX.out]), by omega, HN.out, HBW.out⟩
              case measure => simp [intOf]; omega
    · have hlt2' : decide ((n : Int) < (d.size : Int)) = false := by simp; omega
      have HE : Hid (riseL hi lo d.toList = true) := by
        show _ = _
        rw [HAT.out, List.drop_of_length_le (by simp; omega)]; rfl
      go_wp2
      go_ret
      exact ⟨ret_bool HE.out.symm, HB.out⟩
end Go.Proofs.YtnmojicfmcbgmaaGreat
namespace Go.Proofs.YtnmojicfmcbgmaaGreat
open Go.RowKit Go.Sort Go.Lib

/-- Is a time one of what is attached? -/
def atK (d : Array (Int × Int)) (n : Int) : Bool := (timesL d.toList).contains n
end Go.Proofs.YtnmojicfmcbgmaaGreat
namespace Go.Proofs.YtnmojicfmcbgmaaGreat
open Go.RowKit Go.Sort Go.Lib

set_option maxRecDepth 100000 in
set_option maxHeartbeats 4000000 in
theorem between_any (lo hi : Int) (A : Option Addr) (c : Nat) (d : Array Int) (w : World) (h : RdI_R w.heap.size w A d) (h0 : 0 ≤ lo) (h1 : lo ≤ 1000000) (h2 : hi ≤ 1000000) (hd : d.size ≤ 100000) :
    Calls Tryz.prog 107 #[.int .i64 lo, .int .i64 hi, .slice A d.size c] w fun e w' => ∃ v, e = .returned v ∧ w'.ownsRow w.heap.size 81 2 v (betL lo hi (lo + 1) d.toList).toArray.size (flatK encR 2 (betL lo hi (lo + 1) d.toList).toArray).toList ∧ Below w.heap.size w w' := by
  obtain ⟨i0, hi0, hz0, hz1, hz2⟩ := info_parts range_info
  have HR := Lib.hid h
  clear h
  go_enter Tryz.func107, Tryz.ntmps107
  go_wp2
  go_loopw [7, 8, 15] (fun m a i wr => ∃ (k : Nat) (out : Array (Int × Int)) (at' : Int), i = .int .i64 k ∧ a = .int .i64 at' ∧ k ≤ d.size ∧ out.size ≤ k ∧ lo < at' ∧ at' ≤ 1000001 ∧ betL lo hi (lo + 1) d.toList = out.toList ++ betL lo hi at' (d.toList.drop k) ∧ wr.ownsRow w.heap.size 81 2 m out.size (flatK encR 2 out).toList ∧ Below w.heap.size w wr) (fun _ _ i _ => d.size - (intOf i).toNat)
  case atStart => exact ⟨0, #[], lo + 1, rfl, rfl, Nat.zero_le _, Nat.le_refl _, by omega, by omega, rfl, nil_ownsK _ _ _ _ _, Below.refl _ _⟩
  case round =>
    obtain ⟨k, out, at', rfl, rfl, hk, hos, ha1, ha2, he, hown, hB⟩ := hrel
    have HE := Lib.hid he
    have HB := Lib.hid hB
    clear he hB
    obtain ⟨Am, cm, rfl, _, _⟩ := rdK_of_owns hown
    by_cases hlt : k < d.size
    · have kz : (k : Int) < (d.size : Int) := by omega
      obtain ⟨b, off, rfl, _, f⟩ := (HR.out.below HB.out).at_ hlt
      have HD := Lib.hid (drop_arr_K d k hlt)
      generalize d[k]! = t at f HD
      by_cases ht : lo < t ∧ t ≤ hi
      · have HN : Hid (betL lo hi (lo + 1) d.toList = (out.push (at', t - 1)).toList ++ betL lo hi (t + 1) (d.toList.drop (k + 1))) := by
          show _ = _
          rw [HE.out, HD.out, betL, if_pos ht, Array.toList_push, List.append_assoc]; rfl
        obtain ⟨t1, t2⟩ := ht
        go_wp2_with (at_builtin; refine wpList_append_own _ rfl _ _ 51 rfl w.heap.size 81 i0 (.agg #[.int .i64 0, .int .i64 0]) 2 16 Tryz.underlying51 hi0 hz0 hz1 hz2 rfl (by decide) _ _ _ rfl (hown.alloc _) ⟨wr.heap.size, 0, none⟩ 1 1 [.int .i64 at', .int .i64 (t - 1)] rfl rfl (two_new_R wr _ _ _) (by simp [Value.oneCell']) (by unfold maxLen; omega) (by omega) (by have := HB.out.size; simp; omega) ?_; intro v' w4 hown' hgrow _)
        exact ⟨⟨k + 1, out.push (at', t - 1), t + 1, by go_num, rfl, by omega, by simp; omega, by omega, by omega, HN.out, (by rw [Array.size_push, flatK_push encR_len]; exact hown'), own_app1 HB.out HB.out.size hown hgrow⟩, by simp [intOf]; omega⟩
      · have HN : Hid (betL lo hi (lo + 1) d.toList = out.toList ++ betL lo hi at' (d.toList.drop (k + 1))) := by
          show _ = _
          rw [HE.out, HD.out, betL, if_neg ht]
        have HT := Lib.hid ht
        clear ht
        go_wp2
        all_goals
          first
          | exact absurd ⟨by omega, by omega⟩ HT.out
          | exact ⟨⟨k + 1, out, at', by go_num, rfl, by omega, by omega, ha1, ha2, HN.out, hown, HB.out⟩, by simp [intOf]; omega⟩
    · have hlt' : decide ((k : Int) < (d.size : Int)) = false := by simp; omega
      have HN : Hid (betL lo hi (lo + 1) d.toList = (out.push (at', hi)).toList) := by
        show _ = _
        rw [HE.out, List.drop_of_length_le (by simp; omega), betL, Array.toList_push]
      go_wp2_with (at_builtin; refine wpList_append_own _ rfl _ _ 51 rfl w.heap.size 81 i0 (.agg #[.int .i64 0, .int .i64 0]) 2 16 Tryz.underlying51 hi0 hz0 hz1 hz2 rfl (by decide) _ _ _ rfl (hown.alloc _) ⟨wr.heap.size, 0, none⟩ 1 1 [.int .i64 at', .int .i64 hi] rfl rfl (two_new_R wr _ _ _) (by simp [Value.oneCell']) (by unfold maxLen; omega) (by omega) (by have := HB.out.size; simp; omega) ?_; intro v' w4 hown' hgrow _)
      go_ret
      refine ⟨_, rfl, ?_, own_app1 HB.out HB.out.size hown hgrow⟩
      rw [HN.out]
      show World.ownsRow _ _ _ _ _ (out.push (at', hi)).size (flatK encR 2 (out.push (at', hi))).toList
      rw [Array.size_push, flatK_push encR_len]
      exact hown'
end Go.Proofs.YtnmojicfmcbgmaaGreat
namespace Go.Proofs.YtnmojicfmcbgmaaGreat
open Go.RowKit Go.Sort Go.Lib
set_option maxRecDepth 100000
set_option maxHeartbeats 1000000 in
theorem ContA_empty (A : Option Addr) (c : Nat) (fv : Value) (w : World) :
    Calls Tryz.prog 133 #[.slice A 0 c, fv] w fun e w' => e = .returned (.bool false) ∧ w = w' := by
  go_enter Tryz.func133, Tryz.ntmps133
  go_wp2
  refine wp_loop_rounds 1 ?_; rw [rounds_succ]
  go_wp2
  go_ret
  exact ⟨rfl, rfl⟩
theorem ContA (p : Int × Int → Bool) (g : Nat) (lb : Array Value) (A : Option Addr) (c : Nat) (d : Array (Int × Int)) (w : World) (h : RdK encA_I 2 w.heap.size w A d) (hd : d.size ≤ 100000000) (eg : ∀ args w, (callFunc g args).run Tryz.prog w = .ok (.enter g args) w) (hp : PredBelow Tryz.prog g lb (fun x : Int × Int => .agg (encA_I x).toArray) p w) :
    Calls Tryz.prog 133 #[.slice A d.size c, .func (.func g) #[] lb] w fun e w' => e = .returned (.bool (d.toList.any p)) ∧ Below w.heap.size w w' := by
  rcases Nat.eq_zero_or_pos d.size with h0 | h0
  · have e0 : d = #[] := Array.eq_empty_of_size_eq_zero h0
    subst e0
    exact (ContA_empty A c _ w).mono fun e w' ⟨he, hw⟩ => ⟨by rw [he]; rfl, by rw [← hw]; exact Below.refl _ _⟩
  · obtain ⟨b, off, rfl, hb, hc⟩ := h h0
    have := AnyQ.slices_ContainsFunc Tryz.laysContA 2 Tryz.isAgg29 Tryz.sizeOf29 encA_I (fun _ => rfl) p g lb eg b off d.size c d.toList w hp (by simp) (by omega) hb (fun j hj i v hv => by
      have hj' : j < d.size := by simpa using hj
      have hi : i < 2 := by
        rcases Nat.lt_or_ge i 2 with h' | h'
        · exact h'
        · rw [List.getElem?_eq_none (by show 2 ≤ i; exact h')] at hv; cases hv
      have e1 : d.toList[j]! = d[j]! := by simp [hj']
      rw [e1] at hv
      rw [Nat.add_assoc, hc _ (lt_flat hj' hi), flat_at _ _ _ _ _ hj' hi]
      rw [List.getElem!_eq_getElem?_getD, hv]; rfl)
    rwa [show d.toList.take d.size = d.toList from List.take_of_length_le (by simp)] at this
end Go.Proofs.YtnmojicfmcbgmaaGreat
namespace Go.Proofs.YtnmojicfmcbgmaaGreat
open Go.RowKit Go.Sort Go.Lib
/-- The value v reads as what is known, k. -/
def KnV (w : World) (v : Value) (k : KN) : Prop := ∃ A1 c1 A2 c2, v = .agg #[.int .i64 k.base, .slice A1 k.rs.size c1, .slice A2 k.ats.size c2] ∧ RdK encR 2 w.heap.size w A1 k.rs ∧ RdK encA_I 2 w.heap.size w A2 k.ats ∧ (A1 = none → c1 = 0) ∧ (A2 = none → c2 = 0)
theorem KnV.below {w w' : World} {v : Value} {k : KN} (h : KnV w v k) (hb : Below w.heap.size w w') : KnV w' v k := by
  obtain ⟨A1, c1, A2, c2, e, h1, h2, n1, n2⟩ := h
  exact ⟨A1, c1, A2, c2, e, (h1.below hb).mono hb.size, (h2.below hb).mono hb.size, n1, n2⟩
set_option maxRecDepth 100000
set_option maxHeartbeats 1000000 in
theorem form_K (base : Int) (A1 : Option Addr) (c1 : Nat) (l : Array (Int × Int)) (A2 : Option Addr) (n2 c2 : Nat) (w : World) (h : RdK encR 2 w.heap.size w A1 l) :
    Calls Tryz.prog 108 #[.int .i64 base, .slice A1 l.size c1, .slice A2 n2 c2] w fun e w' => ∃ A out c, e = .returned (.agg #[.int .i64 (preE l base), .slice A out.size c, .slice A2 n2 c2]) ∧ LessE l (1, preE l base) out ∧ RdK encR 2 w'.heap.size w' A out ∧ (A = none → c = 0) ∧ (∀ g off, A = some ⟨g, off, none⟩ → w.heap.size ≤ g) ∧ Below w.heap.size w w' := by
  have HR := Lib.hid h
  clear h
  go_enter Tryz.func108, Tryz.ntmps108
  go_wp2_with fail
  refine (gPrefix_any A1 c1 l base _ ((HR.out.alloc (Nat.le_refl _) _).mono (bel1 w _).size)).mono ?_
  rintro e w1 ⟨rfl, hb1⟩
  have hB1 := belStep (bel1 w _) hb1
  have HB1 := Lib.hid hB1
  have HC := Lib.hid (gCut_any A1 c1 l (preE l base) w1 ((HR.out.below hB1).mono hB1.size))
  go_wp2_with fail
  refine HC.out.mono ?_
  rintro e w2 ⟨v, out, rfl, hL1, hL2, hown, hb2⟩
  have hL : LessE l (1, preE l base) out := ⟨fun hs => less_fit hs (hL1 hs), hL2⟩
  obtain ⟨A, c, rfl, hr, hn⟩ := rdK_of_owns hown
  have HO := Lib.hid hown
  have hfr : ∀ g off, A = some ⟨g, off, none⟩ → w.heap.size ≤ g := fun g off e => by
    have h1 := (hown.lt g (by rw [e]; rfl)).1
    have h2 := hb1.size
    simp at h2
    omega
  have HFr := Lib.hid hfr
  clear hown hfr
  have hz : w.heap.size + 1 ≤ w1.heap.size := by have := hb1.size; simpa using this
  have HL := Lib.hid hL
  have HB2 := Lib.hid (belStep HB1.out hb2)
  have HRd := Lib.hid hr
  have HN := Lib.hid hn
  have blk : w2.heap[w.heap.size]? = some (.cells #[.int .i64 0, .slice none 0 0, .slice none 0 0] 53 (0, 0)) := (hb2.block _ (by omega)).trans ((hb1.block _ (by simp)).trans (heap_alloc_new w _))
  have k0 : w2.cell? ⟨w.heap.size, 0, none⟩ = some (.int .i64 0) := by rw [cell_of_row w2 _ 0 _ _ (0, 0) blk]; rfl
  have k1 : w2.cell? ⟨w.heap.size, 1, none⟩ = some (.slice none 0 0) := by rw [cell_of_row w2 _ 1 _ _ (0, 0) blk]; rfl
  have k2 : w2.cell? ⟨w.heap.size, 2, none⟩ = some (.slice none 0 0) := by rw [cell_of_row w2 _ 2 _ _ (0, 0) blk]; rfl
  have f0 : ∀ i, w2.frozen? ⟨w.heap.size, i, none⟩ = false := fun i => by simp [World.frozen?, blk]
  clear hL hL1 hL2 hr hn HC blk
  go_wp2
  refine bodyPost_ret (v := .agg #[.int .i64 (preE l base), .slice A out.size c, .slice A2 n2 c2]) (by simp [results, Tryz.results108, go_sem, k0, k1, k2]) rfl ⟨A, out, c, rfl, HL.out, ?_, HN.out, HFr.out, ?_⟩
  · obtain ⟨A', c', e, hr, _⟩ := rdK_of_owns (own_heap (w' := ((w2.setCell ⟨w.heap.size, 0, none⟩ (.int .i64 (preE l base))).setCell ⟨w.heap.size, 1, none⟩ (.slice A out.size c)).setCell ⟨w.heap.size, 2, none⟩ (.slice A2 n2 c2)) HO.out (fun g hg hl => by
      simp only [World.setCell, Array.getElem?_modify]
      repeat (rw [if_neg (by omega)])))
    injection e with e1 e2 e3
    subst e1
    exact hr
  · exact ((HB2.out.setCell (Nat.le_refl _) _).setCell (Nat.le_refl _) _).setCell (Nat.le_refl _) _
end Go.Proofs.YtnmojicfmcbgmaaGreat
