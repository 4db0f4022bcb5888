/- Contracts of the layer 'ranges' and of the document's: held, fits, Same, Add. Contracts of the layer 'ranges': Add. The plain law of ranges: a set is fixed by its numbers; what the program and the document make of ranges is such a set, of the same numbers. Contracts of the layer 'ranges': Less, Cut. -/
import Derived.Laws.StructEq
import Derived.Test.YtnmojicfmcbgmaaGreatQRangesG
namespace Go.Proofs.YtnmojicfmcbgmaaGreat
open Go.RowKit Go.Sort Go.Lib

/-- A range's numbers from 1 to the last. -/
def heldR (x : Int × Int) : Int × Int := (max x.1 1, min x.2 1000000)
theorem held_any (x : Int × Int) (w : World) :
    Calls Tryz.prog 129 #[.agg #[.int .i64 x.1, .int .i64 x.2]] w fun e w' => e = .returned (.agg #[.int .i64 (heldR x).1, .int .i64 (heldR x).2]) ∧ Below w.heap.size w w' := by
  unfold heldR
  go_enter Tryz.func129, Tryz.ntmps129
  go_wp2
  have hS : Tryz.prog.underlying 81 = some (.struct (Tryz.prog.fieldsOf 81)) := by kernel_rfl
  refine bodyPost_ret (results_cell_row rfl _ _ (w.heap.size + 1) 81 _ (0, 0) _ rfl (heap_alloc2_new w _ _) hS rfl (by kernel_rfl)) rfl ?_
  exact ⟨rfl, belAlloc (bel1 _ _) _⟩
end Go.Proofs.YtnmojicfmcbgmaaGreat
namespace Go.Proofs.YtnmojicfmcbgmaaGreat
open Go.RowKit Go.Sort Go.Lib

def addsN (d1 d2 : Array (Int × Int)) : Nat → Array (Int × Int)
  | 0 => d1
  | k + 1 => (addsN d1 d2 k).push (heldR d2[k]!)
theorem addsN_size (d1 d2 : Array (Int × Int)) : ∀ k, (addsN d1 d2 k).size = d1.size + k
  | 0 => rfl
  | k + 1 => by simp [addsN, addsN_size d1 d2 k]; omega
/-- What the one form of ranges is, or what was there. -/
def Formed (m was out : Array (Int × Int)) : Prop := ∃ d', SortR m d' ∧ out = (if (formF (d'.toList.filter isR)).size ≤ 1000 then formF (d'.toList.filter isR) else was)
theorem addsN_ok {d1 d2 : Array (Int × Int)} (h : setE_R d1 = 0) : ∀ k, ∀ x ∈ addsN d1 d2 k, isR x = true → 1 ≤ x.1 ∧ x.1 ≤ x.2 ∧ x.2 ≤ 1000000
  | 0, x, hx, _ => by
    obtain ⟨i, hi, rfl⟩ := Array.mem_iff_getElem.1 (show x ∈ d1 from hx)
    have := ok_at h hi
    rw [getElem!_pos d1 i hi] at this
    omega
  | k + 1, x, hx, hr => by
    rcases Array.mem_push.1 hx with h' | rfl
    · exact addsN_ok h k x h' hr
    · unfold isR heldR at hr
      simp only [decide_eq_true_eq] at hr
      unfold heldR
      simp only
      omega
theorem own_below {w w' : World} {base : Nat} {e : TypeId} {size : Nat} {v : Value} {n : Nat} {xs : List Value} (h : w.ownsRow base e size v n xs) (hb : Below w.heap.size w w') : w'.ownsRow base e size v n xs :=
  ⟨h.1, h.2.imp id fun ⟨g, cap, cur, q1, q2, q3, q4⟩ => ⟨g, cap, cur, q1, q2, (hb.block g (Array.getElem?_eq_some_iff.1 q3).1).trans q3, q4⟩⟩
theorem own_app {w wr w1 : World} {o : Obj} {e : TypeId} {s n : Nat} {v : Value} {xs : List Value} (hb : Below w.heap.size w wr) (hown : wr.ownsRow w.heap.size e s v n xs) (hg : (wr.alloc o).grownBy w1 v.ownBlock) : Below w.heap.size w w1 :=
  (belAlloc hb o).grown hg (belAlloc hb o).size (fun k hk => (hown.lt k hk).1)
set_option maxRecDepth 100000 in
set_option maxHeartbeats 4000000 in
theorem gAdd_any (A1 : Option Addr) (c1 : Nat) (d1 : Array (Int × Int)) (A2 : Option Addr) (c2 : Nat) (d2 : Array (Int × Int)) (w : World) (h1 : RdK encR 2 w.heap.size w A1 d1) (h2 : RdK encR 2 w.heap.size w A2 d2) (hd2 : d2.size ≤ 100000) :
    Calls Tryz.prog 68 #[.slice A1 d1.size c1, .slice A2 d2.size c2] w fun e w' => ∃ v out, e = .returned v ∧ (setE_R d1 = 0 → Formed (addsN d1 d2 d2.size) d1 out) ∧ (setE_R d1 ≠ 0 → out = #[]) ∧ w'.ownsRow w.heap.size 81 2 v out.size (flatK encR 2 out).toList ∧ Below w.heap.size w w' := by
  by_cases hs : setE_R d1 = 0
  · have hq : (setE_R d1 == 0) = true := by simp [hs]
    have hd1 := (setE_all hs).1
    have HO := Lib.hid (fun k => addsN_ok (d2 := d2) hs k)
    have HS := Lib.hid hs
    obtain ⟨i0, hi0, hz0, hz1, hz2⟩ := info_parts range_info
    clear hs
    go_enter Tryz.func68, Tryz.ntmps68
    go_wp2_with fail
    refine (gmay_any _ _ d1 _ h1).mono ?_
    rintro e w1 ⟨rfl, hb1⟩
    have HC := Lib.hid (CloneR A1 c1 d1 w1 ((h1.below hb1).mono hb1.size) (by omega))
    go_wp2_with fail
    refine HC.out.mono ?_
    rintro e w2 ⟨v0, rfl, hown0, hb2⟩
    have hB2 : Below w.heap.size w w2 := belStep hb1 hb2
    have hown0' := own_mono_R hown0 hb1.size
    clear hown0 HC
    obtain ⟨A0, c0, rfl, _, _⟩ := rdK_of_owns hown0'
    go_wp2
    go_loopw [5, 15] (fun m i wr => ∃ k : Nat, k ≤ d2.size ∧ i = .int .i64 k ∧ wr.ownsRow w.heap.size 81 2 m (addsN d1 d2 k).size (flatK encR 2 (addsN d1 d2 k)).toList ∧ Below w.heap.size w wr) (fun _ i _ => d2.size - (intOf i).toNat)
    case atStart => exact ⟨0, Nat.zero_le _, rfl, hown0', hB2⟩
    case round =>
      obtain ⟨k, hk, rfl, hown, hb⟩ := hrel
      have ms : (addsN d1 d2 k).size ≤ d1.size + k := Nat.le_of_eq (addsN_size d1 d2 k)
      by_cases hlt : k < d2.size
      · obtain ⟨b, off, rfl, _, f⟩ := (h2.below hb).at_ hlt
        have f0 := f 0 (by omega)
        have f1 := f 1 (by omega)
        have HL : Hid (addsN d1 d2 (k + 1) = (addsN d1 d2 k).push (heldR d2[k]!)) := rfl
        generalize d2[k]! = x at f0 f1 HL
        simp only [Nat.add_zero, encR, List.getElem!_cons_zero, List.getElem!_cons_succ] at f0 f1
        clear f
        generalize addsN d1 d2 k = m at hown HL ms
        obtain ⟨Am, cm, rfl, _, _⟩ := rdK_of_owns hown
        have kz : (k : Int) < (d2.size : Int) := by omega
        go_wp2_with fail
        refine (held_any x _).mono ?_
        rintro e w3 ⟨rfl, hb3⟩
        have hb4 : Below w.heap.size w w3 := belStep (belAlloc hb _) hb3
        have hown3 := own_below (hown.alloc _) hb3
        have hz3 := hb4.size
        go_wp2_with (at_builtin; refine wpList_append_own _ rfl _ _ 51 rfl w.heap.size 81 i0 (.agg #[.int .i64 0, .int .i64 0]) 2 16 Tryz.underlying51 hi0 hz0 hz1 hz2 rfl (by decide) _ _ _ rfl (hown3.alloc _) ⟨w3.heap.size, 0, none⟩ 1 1 [.int .i64 (heldR x).1, .int .i64 (heldR x).2] rfl rfl (two_new_R w3 _ _ _) (by simp [Value.oneCell']) (by unfold maxLen; omega) (by omega) (by simp; omega) ?_; intro v' w4 hown' hgrow _)
        exact ⟨⟨k + 1, by omega, by go_num, (by rw [HL.out, Array.size_push, flatK_push encR_len]; exact hown'), own_app hb4 hown3 hgrow⟩, by simp [intOf]; omega⟩
      · obtain rfl : k = d2.size := by omega
        have HR := Lib.hid (HO.out d2.size)
        generalize hm : addsN d1 d2 d2.size = m at hown HR ms
        have HE := Lib.hid hm
        clear hm
        obtain ⟨Am, cm, rfl, hrm, _⟩ := rdK_of_owns hown
        have HF := Lib.hid (form_any Am cm m A1 c1 d1 wr hrm ((h1.below hb).mono hb.size) (by omega) (by omega) HR.out)
        go_wp2_with fail
        refine HF.out.mono ?_
        rintro e w5 ⟨d', v, out, rfl, hS, ho, hown5, hb5⟩
        have HX : Hid (Formed m d1 out) := ⟨d', hS, ho⟩
        clear hS ho
        go_wp2
        go_ret
        exact ⟨_, out, rfl, fun _ => by rw [HE.out]; exact HX.out, fun h => absurd HS.out h, own_mono_R hown5 hb.size, belStep hb hb5⟩
  · have hq : (setE_R d1 == 0) = false := by simpa using hs
    have HS := Lib.hid hs
    clear hs
    go_enter Tryz.func68, Tryz.ntmps68
    go_wp2_with fail
    refine (gmay_any _ _ d1 _ h1).mono ?_
    rintro e w1 ⟨rfl, hb1⟩
    go_wp2
    go_ret
    exact ⟨_, #[], rfl, fun h => absurd h HS.out, fun _ => rfl, nil_ownsK _ _ _ _ _, hb1⟩
end Go.Proofs.YtnmojicfmcbgmaaGreat
namespace Go.Proofs.YtnmojicfmcbgmaaGreat
open Go.RowKit Go.Sort Go.Lib

def lessN (d : Array (Int × Int)) (r : Int × Int) : Nat → Array (Int × Int)
  | 0 => #[]
  | k + 1 => ((lessN d r k).push (d[k]!.1, min d[k]!.2 (r.1 - 1))).push (max d[k]!.1 (r.2 + 1), d[k]!.2)
theorem lessN_size (d : Array (Int × Int)) (r : Int × Int) : ∀ k, (lessN d r k).size = 2 * k
  | 0 => rfl
  | k + 1 => by simp [lessN, lessN_size d r k]; omega
theorem lessN_ok {d : Array (Int × Int)} {r : Int × Int} (h : setE_R d = 0) (hr : 1 ≤ r.2) : ∀ k, k ≤ d.size → ∀ x ∈ lessN d r k, isR x = true → 1 ≤ x.1 ∧ x.1 ≤ x.2 ∧ x.2 ≤ 1000000
  | 0, _, x, hx, _ => by simp [lessN] at hx
  | k + 1, hk, x, hx, hrx => by
    have o := ok_at h (k := k) (by omega)
    rcases Array.mem_push.1 hx with h' | rfl
    · rcases Array.mem_push.1 h' with h' | rfl
      · exact lessN_ok h hr k (by omega) x h' hrx
      · unfold isR at hrx
        simp only [decide_eq_true_eq] at hrx ⊢
        omega
    · unfold isR at hrx
      simp only [decide_eq_true_eq] at hrx ⊢
      omega
/-- What is left of a set without a range, or the set itself. -/
def LessOut (d : Array (Int × Int)) (r : Int × Int) (out : Array (Int × Int)) : Prop :=
  if (heldR r).2 < (heldR r).1 then out = d else Formed (lessN d (heldR r) d.size) d out
/-- Ranges from 1 to the last number, rising, none beside the next. -/
def NL (l : List (Int × Int)) : Prop := (∀ x ∈ l, 1 ≤ x.1 ∧ x.1 ≤ x.2 ∧ x.2 ≤ 1000000) ∧ l.Pairwise (fun x y => x.2 + 1 < y.1)
theorem inB_iff {n : Int} {x : Int × Int} : inB_R n x = true ↔ x.1 ≤ n ∧ n ≤ x.2 := by unfold inB_R; simp
theorem inL_iff {l : List (Int × Int)} {n : Int} : l.any (inB_R n) = true ↔ ∃ x ∈ l, x.1 ≤ n ∧ n ≤ x.2 := by simp [List.any_eq_true, inB_iff]
theorem inR_iff {d : Array (Int × Int)} {n : Int} : inR d n = true ↔ ∃ x ∈ d.toList, x.1 ≤ n ∧ n ≤ x.2 := inL_iff
theorem NL.tail {x : Int × Int} {l : List (Int × Int)} (h : NL (x :: l)) : NL l := ⟨fun y hy => h.1 y (by simp [hy]), (List.pairwise_cons.1 h.2).2⟩
theorem NL.gt {x : Int × Int} {l : List (Int × Int)} (h : NL (x :: l)) {n : Int} (hn : l.any (inB_R n) = true) : x.2 + 1 < n := by
  obtain ⟨y, hy, h1, _⟩ := inL_iff.1 hn
  have := (List.pairwise_cons.1 h.2).1 y hy
  omega
theorem any_cons {x : Int × Int} {l : List (Int × Int)} {n : Int} : (x :: l).any (inB_R n) = true ↔ (x.1 ≤ n ∧ n ≤ x.2) ∨ l.any (inB_R n) = true := by
  rw [List.any_cons, Bool.or_eq_true, inB_iff]
theorem NL.first {x y : Int × Int} {l m : List (Int × Int)} (h : NL (x :: l)) (k : NL (y :: m)) (e : ∀ n, (x :: l).any (inB_R n) = true → (y :: m).any (inB_R n) = true) : y.1 ≤ x.1 ∧ (x.1 = y.1 → x.2 ≤ y.2) := by
  have hx := h.1 x (by simp)
  have hy := k.1 y (by simp)
  constructor
  · rcases any_cons.1 (e x.1 (any_cons.2 (Or.inl ⟨by omega, by omega⟩))) with h1 | h1
    · omega
    · have := k.gt h1; omega
  · intro e1
    rcases Int.lt_or_le y.2 x.2 with hl | hl
    · rcases any_cons.1 (e (y.2 + 1) (any_cons.2 (Or.inl ⟨by omega, by omega⟩))) with h1 | h1
      · omega
      · have := k.gt h1; omega
    · exact hl
/-- Such ranges are fixed by the numbers in them. -/
theorem NL.uniq : ∀ {l m : List (Int × Int)}, NL l → NL m → (∀ n, l.any (inB_R n) = m.any (inB_R n)) → l = m
  | [], [], _, _, _ => rfl
  | [], y :: m, _, k, e => by
    have hy := k.1 y (by simp)
    have := e y.1
    rw [any_cons.2 (Or.inl ⟨by omega, by omega⟩)] at this
    simp at this
  | x :: l, [], h, _, e => by
    have hx := h.1 x (by simp)
    have := e x.1
    rw [any_cons.2 (Or.inl ⟨by omega, by omega⟩)] at this
    simp at this
  | x :: l, y :: m, h, k, e => by
    have a := h.first k (fun n hn => by rw [← e n]; exact hn)
    have b := k.first h (fun n hn => by rw [e n]; exact hn)
    have e1 : x.1 = y.1 := by omega
    have e2 : x.2 = y.2 := by have := a.2 e1; have := b.2 e1.symm; omega
    have e3 : x = y := Prod.ext e1 e2
    subst e3
    rw [NL.uniq h.tail k.tail fun n => ?_]
    rw [Bool.eq_iff_iff]
    have e' := e n
    constructor
    · intro hn
      have g := h.gt hn
      rcases any_cons.1 (e' ▸ any_cons.2 (Or.inr hn)) with h1 | h1
      · omega
      · exact h1
    · intro hn
      have g := k.gt hn
      rcases any_cons.1 (e'.symm ▸ any_cons.2 (Or.inr hn)) with h1 | h1
      · omega
      · exact h1
theorem NL.chain {d : Array (Int × Int)} (h : ∀ k, k < d.size → badAt d k = false) : NL d.toList := by
  have hk : ∀ k, k < d.size → 1 ≤ d[k]!.1 ∧ d[k]!.1 ≤ d[k]!.2 ∧ d[k]!.2 ≤ 1000000 ∧ (0 < k → d[k - 1]!.2 + 1 < d[k]!.1) := by
    intro k hk
    have := h k hk
    unfold badAt at this
    rw [decide_eq_false_iff_not] at this
    refine ⟨by omega, by omega, by omega, fun h0 => by omega⟩
  refine ⟨fun x hx => ?_, ?_⟩
  · obtain ⟨i, hi, rfl⟩ := List.mem_iff_getElem.1 hx
    have := hk i (by simpa using hi)
    rw [getElem!_pos d i (by simpa using hi)] at this
    simpa using ⟨this.1, this.2.1, this.2.2.1⟩
  · rw [List.pairwise_iff_getElem]
    have main : ∀ m i, i + m + 1 < d.size → d[i]!.2 + 1 < d[i + m + 1]!.1 := by
      intro m
      induction m with
      | zero => intro i hi; have := (hk (i + 1) (by omega)).2.2.2 (by omega); simpa using this
      | succ m ih =>
        intro i hi
        have a := ih i (by omega)
        have b := hk (i + m + 1) (by omega)
        have c := (hk (i + (m + 1) + 1) (by omega)).2.2.2 (by omega)
        have e : i + (m + 1) + 1 - 1 = i + m + 1 := by omega
        rw [e] at c
        omega
    intro i j hi hj hij
    have hi' : i < d.size := by simpa using hi
    have hj' : j < d.size := by simpa using hj
    obtain ⟨m, rfl⟩ : ∃ m, j = i + m + 1 := ⟨j - i - 1, by omega⟩
    have := main m i hj'
    rw [getElem!_pos d i hi', getElem!_pos d _ hj'] at this
    simpa using this
theorem NL.of_set {d : Array (Int × Int)} (h : setE_R d = 0) : NL d.toList := NL.chain (setE_all h).2
theorem NL.bad {d : Array (Int × Int)} (h : NL d.toList) (k : Nat) (hk : k < d.size) : badAt d k = false := by
  unfold badAt
  rw [decide_eq_false_iff_not]
  have a := h.1 d[k]! (by rw [getElem!_pos d k hk]; simp)
  have b : 0 < k → d[k - 1]!.2 + 1 < d[k]!.1 := fun h0 => by
    have := List.pairwise_iff_getElem.1 h.2 (k - 1) k (by simp; omega) (by simpa using hk) (by omega)
    rw [getElem!_pos d k hk, getElem!_pos d (k - 1) (by omega)]
    simpa using this
  omega
theorem NL.set {d : Array (Int × Int)} (h : NL d.toList) (hs : d.size ≤ 1000) : setE_R d = 0 := setE_ok hs h.bad
/-- The one set of just the numbers of which p tells true. -/
def IsN (p : Int → Bool) (s : Array (Int × Int)) : Prop := NL s.toList ∧ ∀ n, inR s n = p n
theorem IsN.uniq {p : Int → Bool} {s t : Array (Int × Int)} (h : IsN p s) (k : IsN p t) : s = t :=
  Array.toList_inj.1 (NL.uniq h.1 k.1 fun n => (h.2 n).trans (k.2 n).symm)
/-- That set, or what was there, if it has too many ranges. -/
def Fit (p : Int → Bool) (was out : Array (Int × Int)) : Prop := ∃ s, IsN p s ∧ out = if s.size ≤ 1000 then s else was
theorem Fit.uniq {p : Int → Bool} {was s t : Array (Int × Int)} (h : Fit p was s) (k : Fit p was t) : s = t := by
  obtain ⟨a, ha, rfl⟩ := h
  obtain ⟨b, hb, rfl⟩ := k
  rw [ha.uniq hb]
theorem Fit.congr {p q : Int → Bool} {was s : Array (Int × Int)} (h : Fit p was s) (e : ∀ n, p n = q n) : Fit q was s := by
  obtain ⟨a, ha, rfl⟩ := h
  exact ⟨a, ⟨ha.1, fun n => (ha.2 n).trans (e n)⟩, rfl⟩
theorem addF_list {out : Array (Int × Int)} {x : Int × Int} : (out = #[] ∧ (addF out x).toList = [x]) ∨ ∃ l y, out.toList = l ++ [y] ∧ (addF out x).toList = if x.1 ≤ y.2 + 1 then l ++ [(y.1, max y.2 x.2)] else l ++ [y, x] := by
  rcases Nat.eq_zero_or_pos out.size with h0 | h0
  · left
    obtain rfl : out = #[] := Array.eq_empty_of_size_eq_zero h0
    exact ⟨rfl, by simp [addF]⟩
  · right
    have hne : out.toList ≠ [] := fun e => by
      have h1 : out.toList.length = 0 := by rw [e]; rfl
      rw [Array.length_toList] at h1
      omega
    have e0 := (List.dropLast_concat_getLast hne).symm
    generalize out.toList.dropLast = l at e0
    generalize out.toList.getLast hne = y at e0
    refine ⟨l, y, e0, ?_⟩
    obtain rfl : out = (l ++ [y]).toArray := by rw [← e0]
    unfold addF
    have e1 : (l ++ [y]).toArray[(l ++ [y]).toArray.size - 1]! = y := by
      rw [getElem!_pos _ _ (by simp)]; simp
    rw [e1]
    by_cases hx : x.1 ≤ y.2 + 1
    · rw [if_pos ⟨by simp, hx⟩, if_pos hx]; simp
    · rw [if_neg (fun h => hx h.2), if_neg hx]; simp
theorem addF_ok {out : Array (Int × Int)} {x : Int × Int} (h : NL out.toList) (hx : 1 ≤ x.1 ∧ x.1 ≤ x.2 ∧ x.2 ≤ 1000000) (hl : ∀ y ∈ out.toList, y.1 ≤ x.1) :
    NL (addF out x).toList ∧ (∀ n, inR (addF out x) n = (inR out n || inB_R n x)) ∧ ∀ z, (∀ y ∈ out.toList, y.1 ≤ z) → x.1 ≤ z → ∀ y ∈ (addF out x).toList, y.1 ≤ z := by
  unfold inR
  rcases addF_list (out := out) (x := x) with ⟨rfl, e⟩ | ⟨l, y, e0, e⟩
  · rw [e]
    exact ⟨⟨by simpa using hx, by simp⟩, fun n => by simp, by simp⟩
  · rw [e0] at h hl
    rw [e, e0]
    have hp := List.pairwise_append.1 h.2
    have hy := h.1 y (by simp)
    have hxy := hl y (by simp)
    by_cases hc : x.1 ≤ y.2 + 1
    · rw [if_pos hc]
      refine ⟨⟨?_, ?_⟩, ?_, ?_⟩
      · intro z hz
        rcases List.mem_append.1 hz with hz | hz
        · exact h.1 z (by simp [hz])
        · simp at hz; subst hz; simp only; omega
      · rw [List.pairwise_append]
        refine ⟨hp.1, by simp, fun a ha b hb => ?_⟩
        simp at hb; subst hb
        exact hp.2.2 a ha y (by simp)
      · intro n
        rw [List.any_append, List.any_append, Bool.or_assoc]
        congr 1
        simp only [List.any_cons, List.any_nil, Bool.or_false]
        rw [Bool.eq_iff_iff, Bool.or_eq_true, inB_iff, inB_iff, inB_iff]
        simp only
        omega
      · intro z h1 h2 u hu
        rcases List.mem_append.1 hu with hu | hu
        · exact h1 u (by simp [hu])
        · simp at hu; subst hu; exact h1 y (by simp)
    · rw [if_neg hc]
      refine ⟨⟨?_, ?_⟩, ?_, ?_⟩
      · intro z hz
        rcases List.mem_append.1 hz with hz | hz
        · exact h.1 z (by simp [hz])
        · simp at hz; rcases hz with rfl | rfl
          · exact hy
          · exact hx
      · rw [List.pairwise_append]
        refine ⟨hp.1, by simp; omega, fun a ha b hb => ?_⟩
        have := hp.2.2 a ha y (by simp)
        simp at hb; rcases hb with rfl | rfl
        · exact this
        · omega
      · intro n
        simp only [List.any_append, List.any_cons, List.any_nil, Bool.or_false, Bool.or_assoc]
      · intro z h1 h2 u hu
        rcases List.mem_append.1 hu with hu | hu
        · exact h1 u (by simp [hu])
        · simp at hu; rcases hu with rfl | rfl
          · exact h1 _ (by simp)
          · exact h2
theorem foldF_ok : ∀ (l : List (Int × Int)) (out : Array (Int × Int)), NL out.toList → (∀ x ∈ l, 1 ≤ x.1 ∧ x.1 ≤ x.2 ∧ x.2 ≤ 1000000) → l.Pairwise (fun x y => x.1 ≤ y.1) → (∀ x ∈ l, ∀ y ∈ out.toList, y.1 ≤ x.1) →
    NL (l.foldl addF out).toList ∧ ∀ n, inR (l.foldl addF out) n = (inR out n || l.any (inB_R n))
  | [], out, h, _, _, _ => ⟨h, fun n => by simp⟩
  | x :: l, out, h, hx, hp, hl => by
    obtain ⟨a, b, c⟩ := addF_ok h (hx x (by simp)) (hl x (by simp))
    have hp' := List.pairwise_cons.1 hp
    have := foldF_ok l (addF out x) a (fun z hz => hx z (by simp [hz])) hp'.2 (fun z hz => c z.1 (hl z (by simp [hz])) (hp'.1 z hz))
    refine ⟨this.1, fun n => ?_⟩
    rw [List.foldl_cons, this.2 n, b n, List.any_cons, Bool.or_assoc]
theorem Formed.fit {m was out : Array (Int × Int)} (h : Formed m was out) (hm : ∀ x ∈ m, isR x = true → 1 ≤ x.1 ∧ x.1 ≤ x.2 ∧ x.2 ≤ 1000000) : Fit (inR m) was out := by
  obtain ⟨d', ⟨_, hmem, hs⟩, rfl⟩ := h
  have hp : d'.toList.Pairwise (fun x y => x.1 ≤ y.1) := by
    rw [List.pairwise_iff_getElem]
    intro i j hi hj hij
    have := hs i j hij (by simpa using hj)
    rw [getElem!_pos d' i (by simpa using hi), getElem!_pos d' j (by simpa using hj)] at this
    simpa using this
  have := foldF_ok (d'.toList.filter isR) #[] ⟨by simp, by simp⟩ (fun x hx => by
    obtain ⟨h1, h2⟩ := List.mem_filter.1 hx
    exact hm x ((hmem x).1 (by simpa using h1)) h2) (hp.filter _) (by simp)
  refine ⟨formF (d'.toList.filter isR), ⟨this.1, fun n => ?_⟩, rfl⟩
  show inR (List.foldl addF #[] (d'.toList.filter isR)) n = _
  rw [this.2 n]
  have e0 : inR #[] n = false := rfl
  rw [e0, Bool.false_or, Bool.eq_iff_iff, inL_iff, inR_iff]
  constructor
  · rintro ⟨x, hx, h1⟩
    obtain ⟨h3, _⟩ := List.mem_filter.1 hx
    exact ⟨x, by have := (hmem x).1 (by simpa using h3); simpa using this, h1⟩
  · rintro ⟨x, hx, h1, h2⟩
    refine ⟨x, List.mem_filter.2 ⟨by have := (hmem x).2 (by simpa using hx); simpa using this, ?_⟩, h1, h2⟩
    unfold isR; simp; omega
/-- Is a number one of those that there are? -/
def may1 (n : Int) : Bool := decide (1 ≤ n ∧ n ≤ 1000000)
theorem inR_push {d : Array (Int × Int)} {x : Int × Int} {n : Int} : inR (d.push x) n = (inR d n || inB_R n x) := by unfold inR; simp
theorem inR_may {d : Array (Int × Int)} (h : NL d.toList) {n : Int} (hn : inR d n = true) : 1 ≤ n ∧ n ≤ 1000000 := by
  obtain ⟨x, hx, h1, h2⟩ := inR_iff.1 hn
  have := h.1 x hx
  omega
theorem inR_iff_at {d : Array (Int × Int)} {n : Int} : inR d n = true ↔ ∃ j, j < d.size ∧ d[j]!.1 ≤ n ∧ n ≤ d[j]!.2 := by
  rw [inR_iff]
  constructor
  · rintro ⟨x, hx, h⟩
    obtain ⟨i, hi, rfl⟩ := List.mem_iff_getElem.1 hx
    have hi' : i < d.size := by simpa using hi
    exact ⟨i, hi', by rw [getElem!_pos d i hi']; simpa using h⟩
  · rintro ⟨j, hj, h⟩
    exact ⟨d[j]!, by rw [getElem!_pos d j hj]; simp, h⟩
theorem addsN_in (d1 d2 : Array (Int × Int)) (n : Int) : ∀ k, inR (addsN d1 d2 k) n = true ↔ inR d1 n = true ∨ ((1 ≤ n ∧ n ≤ 1000000) ∧ ∃ j, j < k ∧ d2[j]!.1 ≤ n ∧ n ≤ d2[j]!.2)
  | 0 => by simp [addsN]
  | k + 1 => by
    show inR ((addsN d1 d2 k).push _) n = true ↔ _
    rw [inR_push, Bool.or_eq_true, addsN_in d1 d2 n k, inB_iff]
    unfold heldR
    simp only
    constructor
    · rintro ((h | ⟨h, j, hj, hh⟩) | h)
      · exact Or.inl h
      · exact Or.inr ⟨h, j, by omega, hh⟩
      · exact Or.inr ⟨by omega, k, by omega, by omega, by omega⟩
    · rintro (h | ⟨h, j, hj, hh⟩)
      · exact Or.inl (Or.inl h)
      · rcases Nat.lt_or_ge j k with h' | h'
        · exact Or.inl (Or.inr ⟨h, j, h', hh⟩)
        · obtain rfl : j = k := by omega
          exact Or.inr (by omega)
/-- The numbers that are in one of both. -/
def pAdd (d1 d2 : Array (Int × Int)) (n : Int) : Bool := may1 n && (inR d1 n || inR d2 n)
def pLess (d : Array (Int × Int)) (r : Int × Int) (n : Int) : Bool := inR d n && !inB_R n r
def pGaps (d : Array (Int × Int)) (r : Int × Int) (n : Int) : Bool := may1 n && (inB_R n r && !inR d n)
theorem may1_iff {n : Int} : may1 n = true ↔ 1 ≤ n ∧ n ≤ 1000000 := by unfold may1; simp
theorem lessN_in (d : Array (Int × Int)) (r : Int × Int) (hr : r.1 ≤ r.2) (n : Int) : ∀ k, inR (lessN d r k) n = true ↔ (∃ j, j < k ∧ d[j]!.1 ≤ n ∧ n ≤ d[j]!.2) ∧ ¬ (r.1 ≤ n ∧ n ≤ r.2)
  | 0 => by simp [lessN, inR]
  | k + 1 => by
    show inR (((lessN d r k).push _).push _) n = true ↔ _
    rw [inR_push, inR_push, Bool.or_eq_true, Bool.or_eq_true, lessN_in d r hr n k, inB_iff, inB_iff]
    simp only
    constructor
    · rintro ((⟨⟨j, hj, hh⟩, h⟩ | h) | h)
      · exact ⟨⟨j, by omega, hh⟩, h⟩
      · exact ⟨⟨k, by omega, by omega⟩, by omega⟩
      · exact ⟨⟨k, by omega, by omega⟩, by omega⟩
    · rintro ⟨⟨j, hj, hh⟩, h⟩
      rcases Nat.lt_or_ge j k with h' | h'
      · exact Or.inl (Or.inl ⟨⟨j, h', hh⟩, h⟩)
      · obtain rfl : j = k := by omega
        omega
theorem less_fit {d out : Array (Int × Int)} {r : Int × Int} (hs : setE_R d = 0) (h : LessOut d r out) : Fit (pLess d r) d out := by
  have hd := NL.of_set hs
  unfold LessOut at h
  split at h
  · rename_i he
    subst h
    refine ⟨out, ⟨hd, fun n => ?_⟩, by rw [if_pos (setE_all hs).1]⟩
    unfold pLess
    cases hn : inR out n
    · rfl
    · have := inR_may hd hn
      have e : inB_R n r = false := by
        rw [Bool.eq_false_iff]
        intro h; rw [inB_iff] at h
        unfold heldR at he
        simp only at he
        omega
      rw [e]; rfl
  · rename_i he
    have hb : 1 ≤ (heldR r).1 ∧ (heldR r).2 ≤ 1000000 := by unfold heldR; constructor <;> (simp only; omega)
    refine (h.fit (lessN_ok hs (by omega) _ (Nat.le_refl _))).congr fun n => ?_
    rw [Bool.eq_iff_iff, lessN_in d _ (by omega), ← inR_iff_at]
    unfold pLess
    rw [Bool.and_eq_true, Bool.not_eq_true', Bool.eq_false_iff, Ne, inB_iff]
    constructor
    · rintro ⟨h1, h2⟩
      have := inR_may hd h1
      refine ⟨h1, ?_⟩
      unfold heldR at h2
      simp only at h2
      omega
    · rintro ⟨h1, h2⟩
      refine ⟨h1, ?_⟩
      unfold heldR
      simp only
      omega
/-! what lacks -/
/-! the document's: the numbers at which something changes -/
theorem Fit.set {p : Int → Bool} {was out : Array (Int × Int)} (h : Fit p was out) (hw : setE_R was = 0) : setE_R out = 0 := by
  obtain ⟨s, hs, rfl⟩ := h
  split
  · rename_i h; exact hs.1.set h
  · exact hw
end Go.Proofs.YtnmojicfmcbgmaaGreat
namespace Go.Proofs.YtnmojicfmcbgmaaGreat
open Go.RowKit Go.Sort Go.Lib

theorem four_new (W : World) (H : Nat) (hH : W.heap.size = H) (p q r s : Value) (t : TypeId) : ∀ j u, [p, q, r, s][j]? = some u → (W.alloc (.cells #[p, q, r, s] t)).cell? ((⟨H, 0, none⟩ : Addr).add j) = some u := by
  intro j u hj
  subst hH
  rw [Addr.add_lit, Nat.zero_add, cell_new]
  rw [← hj]
  simp
theorem own_app2 {w wr w1 : World} {B : Nat} {o o' : Obj} {e : TypeId} {s n : Nat} {v : Value} {xs : List Value} (hb : Below B w wr) (hB : B ≤ wr.heap.size) (hown : wr.ownsRow B e s v n xs) (hg : ((wr.alloc o).alloc o').grownBy w1 v.ownBlock) : Below B w w1 :=
  ((hb.alloc hB o).alloc (by simp; omega) o').grown hg (by simp; omega) (fun k hk => (hown.lt k hk).1)
theorem two_set {W : World} {b : Nat} {p q u v : Value} (h0 : W.cell? ⟨b, 0, none⟩ = some p) (h1 : W.cell? ⟨b, 1, none⟩ = some q) :
    ((W.setCell ⟨b, 0, none⟩ u).setCell ⟨b, 1, none⟩ v).cell? ⟨b, 0, none⟩ = some u ∧ ((W.setCell ⟨b, 0, none⟩ u).setCell ⟨b, 1, none⟩ v).cell? ⟨b, 1, none⟩ = some v := by
  constructor
  · rw [World.cell?_setCell_other]
    · apply World.cell?_setCell_same; exact h0
    · simp
  · apply World.cell?_setCell_same (u := q)
    rw [World.cell?_setCell_other]
    · exact h1
    · simp
set_option maxRecDepth 100000 in
set_option maxHeartbeats 4000000 in
theorem gLess_any (A1 : Option Addr) (c1 : Nat) (d1 : Array (Int × Int)) (r : Int × Int) (w : World) (h1 : RdK encR 2 w.heap.size w A1 d1) :
    Calls Tryz.prog 174 #[.slice A1 d1.size c1, .agg #[.int .i64 r.1, .int .i64 r.2]] w fun e w' => ∃ v out, e = .returned v ∧ (setE_R d1 = 0 → LessOut d1 r out) ∧ (setE_R d1 ≠ 0 → out = #[]) ∧ w'.ownsRow w.heap.size 81 2 v out.size (flatK encR 2 out).toList ∧ Below w.heap.size w w' := by
  have r0 := Lib.hid ((h1.alloc (Nat.le_refl _) (.cells #[.int .i64 r.1, .int .i64 r.2] 81)).mono (show w.heap.size ≤ (w.alloc (.cells #[.int .i64 r.1, .int .i64 r.2] 81)).heap.size by simp))
  by_cases hs : setE_R d1 = 0
  · have hq : (setE_R d1 == 0) = true := by simp [hs]
    have hd1 := (setE_all hs).1
    have HO := Lib.hid (fun r hr => lessN_ok (r := r) hs hr d1.size (Nat.le_refl _))
    have HK := Lib.hid (fun k hk => @ok_at d1 hs k hk)
    have HS := Lib.hid hs
    obtain ⟨i0, hi0, hz0, hz1, hz2⟩ := info_parts range_info
    clear hs
    go_enter Tryz.func174, Tryz.ntmps174
    go_wp2_with fail
    refine (gmay_any _ _ d1 _ r0.out).mono ?_
    rintro e w1 ⟨rfl, hb1⟩
    have cb0 : w1.cell? ⟨w.heap.size, 0, none⟩ = some (.int .i64 r.1) := (hb1.cell (p := ⟨w.heap.size, 0, none⟩) (by simp)).trans (cell_new w #[.int .i64 r.1, .int .i64 r.2] _ 0)
    have cb1 : w1.cell? ⟨w.heap.size, 1, none⟩ = some (.int .i64 r.2) := (hb1.cell (p := ⟨w.heap.size, 1, none⟩) (by simp)).trans (cell_new w #[.int .i64 r.1, .int .i64 r.2] _ 1)
    go_wp2_with fail
    refine (held_any r _).mono ?_
    rintro e w2 ⟨rfl, hb2⟩
    have hw1 : w.heap.size < w1.heap.size := by have := hb1.size; simp at this; omega
    have blk : w2.heap[w.heap.size]? = some (.cells #[.int .i64 r.1, .int .i64 r.2] 81 (0, 0)) := (hb2.block _ hw1).trans ((hb1.block _ (by simp)).trans (heap_alloc_new w _))
    have cc0 : w2.cell? ⟨w.heap.size, 0, none⟩ = some (.int .i64 r.1) := (hb2.cell (p := ⟨w.heap.size, 0, none⟩) hw1).trans cb0
    have cc1 : w2.cell? ⟨w.heap.size, 1, none⟩ = some (.int .i64 r.2) := (hb2.cell (p := ⟨w.heap.size, 1, none⟩) hw1).trans cb1
    have cf0 : w2.frozen? ⟨w.heap.size, 0, none⟩ = false := by simp [World.frozen?, blk]
    have cf1 : w2.frozen? ⟨w.heap.size, 1, none⟩ = false := by simp [World.frozen?, blk]
    have hB2 : Below w.heap.size w w2 := belStep (belStep (bel1 _ _) hb1) hb2
    have HB2 := Lib.hid hB2
    have Z2 : Hid (w.heap.size + 1 ≤ w2.heap.size) := Nat.le_trans hw1 hb2.size
    clear cb0 cb1 blk hb1 hb2
    by_cases hh : (heldR r).2 < (heldR r).1
    · have HL : Hid (∀ out, out = d1 → LessOut d1 r out) := fun out h => by unfold LessOut; rw [if_pos hh]; exact h
      generalize heldR r = q at hh
      have hB3 : Below w.heap.size w ((w2.setCell ⟨w.heap.size, 0, none⟩ (.int .i64 q.1)).setCell ⟨w.heap.size, 1, none⟩ (.int .i64 q.2)) := (HB2.out.setCell (p := ⟨w.heap.size, 0, none⟩) (Nat.le_refl _) _).setCell (p := ⟨w.heap.size, 1, none⟩) (Nat.le_refl _) _
      have HC := Lib.hid (CloneR A1 c1 d1 _ ((h1.below hB3).mono hB3.size) (by omega))
      have HB3 := Lib.hid hB3
      clear hB3
      go_wp2_with fail
      refine HC.out.mono ?_
      rintro e w4 ⟨v, rfl, hown, hb4⟩
      go_wp2
      go_ret
      exact ⟨v, d1, rfl, fun _ => HL.out d1 rfl, fun h => absurd HS.out h, own_mono_R hown HB3.out.size, belStep HB3.out hb4⟩
    · have HL : Hid (∀ out, Formed (lessN d1 (heldR r) d1.size) d1 out → LessOut d1 r out) := fun out h => by unfold LessOut; rw [if_neg hh]; exact h
      have hb : 1 ≤ (heldR r).1 ∧ (heldR r).2 ≤ 1000000 := by unfold heldR; constructor <;> (simp only; omega)
      generalize heldR r = q at hh hb HL
      have hqd : decide (q.2 < q.1) = false := by simp; omega
      have hB3 : Below w.heap.size w ((w2.setCell ⟨w.heap.size, 0, none⟩ (.int .i64 q.1)).setCell ⟨w.heap.size, 1, none⟩ (.int .i64 q.2)) := (HB2.out.setCell (p := ⟨w.heap.size, 0, none⟩) (Nat.le_refl _) _).setCell (p := ⟨w.heap.size, 1, none⟩) (Nat.le_refl _) _
      have hz2 : w.heap.size + 1 ≤ w2.heap.size := by have := HB2.out.size; have := Z2.out; omega
      obtain ⟨q0, q1⟩ := two_set (u := .int .i64 q.1) (v := .int .i64 q.2) cc0 cc1
      have hz3 : w.heap.size + 1 ≤ ((w2.setCell ⟨w.heap.size, 0, none⟩ (.int .i64 q.1)).setCell ⟨w.heap.size, 1, none⟩ (.int .i64 q.2)).heap.size := by simpa [World.setCell] using hz2
      have HQ := Lib.hid hb
      go_wp2
      generalize (w2.setCell ⟨w.heap.size, 0, none⟩ (.int .i64 q.1)).setCell ⟨w.heap.size, 1, none⟩ (.int .i64 q.2) = W3 at hB3 q0 q1 hz3 ⊢
      clear cc0 cc1 cf0 cf1 hB2 hz2 hw1
      go_loopw [5, 22] (fun m i wr => ∃ k : Nat, k ≤ d1.size ∧ i = .int .i64 k ∧ wr.ownsRow (w.heap.size + 1) 81 2 m (lessN d1 q k).size (flatK encR 2 (lessN d1 q k)).toList ∧ Below (w.heap.size + 1) W3 wr) (fun _ i _ => d1.size - (intOf i).toNat)
      case atStart => exact ⟨0, Nat.zero_le _, rfl, nil_ownsK _ _ _ _ _, Below.refl _ _⟩
      case round =>
        obtain ⟨k, hk, rfl, hown, hb⟩ := hrel
        have ms : (lessN d1 q k).size ≤ 2 * k := Nat.le_of_eq (lessN_size d1 q k)
        have hBw : Below w.heap.size w wr := hB3.trans (hb.mono (by omega))
        have hzr : w.heap.size + 1 ≤ wr.heap.size := Nat.le_trans hz3 hb.size
        by_cases hlt : k < d1.size
        · obtain ⟨b, off, rfl, _, f⟩ := (h1.below hBw).at_ hlt
          have f0 := f 0 (by omega)
          have f1 := f 1 (by omega)
          have HX := HK.out k hlt
          have HL : Hid (lessN d1 q (k + 1) = ((lessN d1 q k).push (d1[k]!.1, min d1[k]!.2 (q.1 - 1))).push (max d1[k]!.1 (q.2 + 1), d1[k]!.2)) := rfl
          have hx1 := HX.1
          have hx2 := HX.2.1
          have hx3 := HX.2.2.1
          clear HX
          generalize d1[k]! = x at f0 f1 HL hx1 hx2 hx3
          simp only [Nat.add_zero, encR, List.getElem!_cons_zero, List.getElem!_cons_succ] at f0 f1
          clear f
          generalize lessN d1 q k = m at hown HL ms
          obtain ⟨Am, cm, rfl, _, _⟩ := rdK_of_owns hown
          have g0 : wr.cell? ⟨w.heap.size, 0, none⟩ = some (.int .i64 q.1) := (hb.cell (p := ⟨w.heap.size, 0, none⟩) (by simp)).trans q0
          have g1 : wr.cell? ⟨w.heap.size, 1, none⟩ = some (.int .i64 q.2) := (hb.cell (p := ⟨w.heap.size, 1, none⟩) (by simp)).trans q1
          have c0 : ∀ o, (wr.alloc o).cell? ⟨w.heap.size, 0, none⟩ = some (.int .i64 q.1) := fun o => (World.cell?_alloc_lt wr o ⟨w.heap.size, 0, none⟩ (by show w.heap.size < _; omega)).trans g0
          have c1' : ∀ o, (wr.alloc o).cell? ⟨w.heap.size, 1, none⟩ = some (.int .i64 q.2) := fun o => (World.cell?_alloc_lt wr o ⟨w.heap.size, 1, none⟩ (by show w.heap.size < _; omega)).trans g1
          have hq1 := HQ.out.1
          have hq2 := HQ.out.2
          have kz : (k : Int) < (d1.size : Int) := by omega
          clear q0 q1
          go_wp2_with (at_builtin; refine wpList_append_own _ rfl _ _ 51 rfl (w.heap.size + 1) 81 i0 (.agg #[.int .i64 0, .int .i64 0]) 2 16 Tryz.underlying51 hi0 hz0 hz1 hz2 rfl (by decide) _ _ _ rfl ((hown.alloc _).alloc _) ⟨wr.heap.size + 1, 0, none⟩ 2 2 [.int .i64 x.1, .int .i64 (min x.2 (q.1 - 1)), .int .i64 (max x.1 (q.2 + 1)), .int .i64 x.2] rfl rfl (four_new (wr.alloc _) _ (by simp) _ _ _ _ _) (by simp [Value.oneCell']) (by unfold maxLen; omega) (by omega) (by simp; omega) ?_; intro v' w4 hown' hgrow _)
          exact ⟨⟨k + 1, by omega, by go_num, (by rw [HL.out, Array.size_push, Array.size_push, flatK_push encR_len, flatK_push encR_len, List.append_assoc]; exact hown'), own_app2 hb hzr hown hgrow⟩, by simp [intOf]; omega⟩
        · obtain rfl : k = d1.size := by omega
          have HR := Lib.hid (HO.out q (by have := HQ.out; omega))
          generalize hm : lessN d1 q d1.size = m at hown HR ms
          have HE := Lib.hid hm
          clear hm
          obtain ⟨Am, cm, rfl, hrm, _⟩ := rdK_of_owns hown
          have HF := Lib.hid (form_any Am cm m A1 c1 d1 wr hrm ((h1.below hBw).mono hBw.size) (by omega) (by omega) HR.out)
          have HBW := Lib.hid hBw
          clear q0 q1
          go_wp2_with fail
          refine HF.out.mono ?_
          rintro e w5 ⟨d', v, out, rfl, hS, ho, hown5, hb5⟩
          have HX : Hid (Formed m d1 out) := ⟨d', hS, ho⟩
          clear hS ho
          go_wp2
          go_ret
          exact ⟨_, out, rfl, fun _ => HL.out out (by rw [HE.out]; exact HX.out), fun h => absurd HS.out h, own_mono_R hown5 HBW.out.size, belStep HBW.out hb5⟩
  · have hq : (setE_R d1 == 0) = false := by simpa using hs
    have HS := Lib.hid hs
    clear hs
    go_enter Tryz.func174, Tryz.ntmps174
    go_wp2_with fail
    refine (gmay_any _ _ d1 _ r0.out).mono ?_
    rintro e w1 ⟨rfl, hb1⟩
    go_wp2
    go_ret
    exact ⟨_, #[], rfl, fun h => absurd h HS.out, fun _ => rfl, nil_ownsK _ _ _ _ _, belStep (bel1 _ _) hb1⟩
theorem gCut_any (A1 : Option Addr) (c1 : Nat) (d1 : Array (Int × Int)) (n : Int) (w : World) (h1 : RdK encR 2 w.heap.size w A1 d1) :
    Calls Tryz.prog 147 #[.slice A1 d1.size c1, .int .i64 n] w fun e w' => ∃ v out, e = .returned v ∧ (setE_R d1 = 0 → LessOut d1 (1, n) out) ∧ (setE_R d1 ≠ 0 → out = #[]) ∧ w'.ownsRow w.heap.size 81 2 v out.size (flatK encR 2 out).toList ∧ Below w.heap.size w w' := by
  have H := Lib.hid (gLess_any A1 c1 d1 (1, n) w h1)
  go_enter Tryz.func147, Tryz.ntmps147
  go_wp2_with fail
  refine H.out.mono ?_
  rintro e w1 ⟨v, out, rfl, ho1, ho2, hown, hb⟩
  have HO1 := Lib.hid ho1
  have HO2 := Lib.hid ho2
  clear ho1 ho2
  go_wp2
  go_ret
  exact ⟨v, out, rfl, HO1.out, HO2.out, hown, hb⟩
end Go.Proofs.YtnmojicfmcbgmaaGreat
