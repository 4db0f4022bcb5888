/- A replica: its eighteen cells, its rows; what it means that they are read; few. Rows of a replica asked, and held against each other: slices.IndexFunc, ContainsFunc, EqualFunc; rubatoref18.Same, rubatoref25.sameKnown, sameDone. Tables of marks: sweep.Check, rubatoref18.Check, rubatolaw18.Few. Commands asked by place: slices.IndexFunc, ContainsFunc at api.Entry. New tables of marks: sweep.cut, sweep.New, rubatoref18.New. known.Add, known.Settle once more: what they give lies in new blocks (printed out of XKnL, XKnM by a small program). -/
import Derived.Test.YtnmojicfmcbgmaaGreatQRead
import Derived.Test.YtnmojicfmcbgmaaGreatQEnF
import Derived.Test.YtnmojicfmcbgmaaGreatQOpenK
import Derived.Maps.AppendAt
import Derived.Deep.Slices
import Derived.Test.YtnmojicfmcbgmaaGreatQKnF
import Derived.Test.YtnmojicfmcbgmaaGreatQStableF
import Derived.Test.YtnmojicfmcbgmaaGreatQKnJ
namespace Go.Proofs.YtnmojicfmcbgmaaGreat
open Go.RowKit Go.Sort Go.Lib
structure RdW {α : Type} [Inhabited α] (en : α → List Value) (k : Nat) (w : World) (x : RW α) : Prop where
  rd : RdK en k w.heap.size w x.A x.z
  cz : x.z.size ≤ x.c
  no : x.A = none → x.c = 0
theorem RdW.below {α : Type} [Inhabited α] {en : α → List Value} {k : Nat} {w w' : World} {x : RW α} (h : RdW en k w x) (hb : Below w.heap.size w w') : RdW en k w' x := ⟨(h.rd.below hb).mono hb.size, h.cz, h.no⟩
def KE.kn (k : KE) : KN := ⟨k.base, k.r.z, k.a.z⟩
/-- A row is read, whatever lies behind it. -/
structure RdN {α : Type} [Inhabited α] (en : α → List Value) (k : Nat) (w : World) (x : RW α) : Prop where
  rd : RdK en k w.heap.size w x.A x.z
  no : x.A = none → x.c = 0
theorem RdN.below {α : Type} [Inhabited α] {en : α → List Value} {k : Nat} {w w' : World} {x : RW α} (h : RdN en k w x) (hb : Below w.heap.size w w') : RdN en k w' x := ⟨(h.rd.below hb).mono hb.size, h.no⟩
structure RdKE (w : World) (k : KE) : Prop where
  r : RdN encR 2 w k.r
  a : RdN encA_I 2 w k.a
theorem RdKE.below {w w' : World} {k : KE} (h : RdKE w k) (hb : Below w.heap.size w w') : RdKE w' k := ⟨h.r.below hb, h.a.below hb⟩
theorem RdKE.knV {w : World} {k : KE} (h : RdKE w k) : KnV w (.agg (encKE k).toArray) k.kn := ⟨k.r.A, k.r.c, k.a.A, k.a.c, rfl, h.r.rd, h.a.rd, h.r.no, h.a.no⟩
/-- A row of numbers is read, with its slice. -/
structure RdJ (w : World) (x : RW Int) : Prop where
  rd : RdI_R w.heap.size w x.A x.z
  cz : x.z.size ≤ x.c
  no : x.A = none → x.c = 0
theorem RdJ.below {w w' : World} {x : RW Int} (h : RdJ w x) (hb : Below w.heap.size w w') : RdJ w' x := ⟨(h.rd.below hb).mono hb.size, h.cz, h.no⟩
/-- A replica is read. -/
structure RdP (w : World) (r : RP) : Prop where
  e : RdT0 w r.e.A r.e.z
  o : RdN encA_I 2 w r.o
  k : RdW encKE 3 w r.k
  kk : ∀ i, i < r.k.z.size → RdKE w r.k.z[i]!
  m : RdW encW 1 w r.m
  mm : ∀ i, i < r.m.z.size → RdJ w r.m.z[i]!
  fr : RdJ w r.fr
  d : RdW encW 1 w r.d
  dd : ∀ i, i < r.d.z.size → RdW encR 2 w r.d.z[i]!
  it : RdW encIT 4 w r.it
  ss : RdW encSS 3 w r.ss
theorem RdP.below {w w' : World} {r : RP} (h : RdP w r) (hb : Below w.heap.size w w') : RdP w' r :=
  ⟨h.e.below hb, h.o.below hb, h.k.below hb, fun i hi => (h.kk i hi).below hb, h.m.below hb, fun i hi => (h.mm i hi).below hb, h.fr.below hb, h.d.below hb, fun i hi => (h.dd i hi).below hb, h.it.below hb, h.ss.below hb⟩
/-- So few rows and numbers. -/
def fewM (m : Array (RW Int)) : Bool := decide (m.size ≤ 20) && (List.range m.size).all fun i => decide (m[i]!.z.size ≤ 20)
theorem fewM_iff {m : Array (RW Int)} : fewM m = true ↔ m.size ≤ 20 ∧ ∀ i, i < m.size → m[i]!.z.size ≤ 20 := by
  unfold fewM
  rw [Bool.and_eq_true, decide_eq_true_eq, List.all_eq_true]
  constructor
  · rintro ⟨h, g⟩; exact ⟨h, fun i hi => of_decide_eq_true (g i (List.mem_range.2 hi))⟩
  · rintro ⟨h, g⟩; exact ⟨h, fun i hi => decide_eq_true (g i (List.mem_range.1 hi))⟩
def fewKs (k : Array KE) : Bool := (List.range k.size).all fun i => fewK k[i]!.kn
theorem fewKs_iff {k : Array KE} : fewKs k = true ↔ ∀ i, i < k.size → fewK k[i]!.kn = true := by
  unfold fewKs; rw [List.all_eq_true]
  exact ⟨fun g i hi => g i (List.mem_range.2 hi), fun g i hi => g i (List.mem_range.1 hi)⟩
def fewD (d : Array (RW (Int × Int))) : Bool := (List.range d.size).all fun i => decide (d[i]!.z.size ≤ 100)
theorem fewD_iff {d : Array (RW (Int × Int))} : fewD d = true ↔ ∀ i, i < d.size → d[i]!.z.size ≤ 100 := by
  unfold fewD; rw [List.all_eq_true]
  exact ⟨fun g i hi => of_decide_eq_true (g i (List.mem_range.2 hi)), fun g i hi => decide_eq_true (g i (List.mem_range.1 hi))⟩
def fewR (r : RP) : Bool := fewT r.e.z && decide (r.o.z.size ≤ 100) && decide (r.k.z.size ≤ 20) && fewM r.m.z && decide (r.fr.z.size ≤ 20) && decide (r.d.z.size ≤ 20) && fewKs r.k.z && fewD r.d.z && decide (r.it.z.size ≤ 60) && decide (r.ss.z.size ≤ 60)
structure FewP (r : RP) : Prop where
  e : fewT r.e.z = true
  o : r.o.z.size ≤ 100
  k : r.k.z.size ≤ 20
  m : fewM r.m.z = true
  fr : r.fr.z.size ≤ 20
  d : r.d.z.size ≤ 20
  kk : ∀ i, i < r.k.z.size → fewK r.k.z[i]!.kn = true
  dd : ∀ i, i < r.d.z.size → r.d.z[i]!.z.size ≤ 100
  it : r.it.z.size ≤ 60
  ss : r.ss.z.size ≤ 60
theorem fewR_iff {r : RP} : fewR r = true ↔ FewP r := by
  unfold fewR
  simp only [Bool.and_eq_true, decide_eq_true_eq, fewKs_iff, fewD_iff]
  exact ⟨fun ⟨⟨⟨⟨⟨⟨⟨⟨⟨a, b⟩, c⟩, d⟩, e⟩, f⟩, g⟩, h⟩, i⟩, j⟩ => ⟨a, b, c, d, e, f, g, h, i, j⟩, fun ⟨a, b, c, d, e, f, g, h, i, j⟩ => ⟨⟨⟨⟨⟨⟨⟨⟨⟨a, b⟩, c⟩, d⟩, e⟩, f⟩, g⟩, h⟩, i⟩, j⟩⟩
/-- So small that it can be asked (behind whatever was done to it, too). -/
structure FewC (r : RP) : Prop where
  es : r.e.z.size ≤ 100
  ee : ∀ i, i < r.e.z.size → r.e.z[i]!.z.size ≤ 100 ∧ r.e.z[i]!.pay.size ≤ 1000
  o : r.o.z.size ≤ 1000
  k : r.k.z.size ≤ 20
  m : r.m.z.size ≤ 20
  mm : ∀ i, i < r.m.z.size → r.m.z[i]!.z.size ≤ 20
  fr : r.fr.z.size ≤ 20
  d : r.d.z.size ≤ 20
  dd : ∀ i, i < r.d.z.size → r.d.z[i]!.z.size ≤ 1000
  kk : ∀ i, i < r.k.z.size → r.k.z[i]!.r.z.size ≤ 1000 ∧ r.k.z[i]!.a.z.size ≤ 1000
theorem FewP.c {r : RP} (h : FewP r) : FewC r :=
  ⟨by have := (fewT_iff.1 h.e).1; omega, fun i hi => (fewT_iff.1 h.e).2 i hi, by have := h.o; omega, h.k, (fewM_iff.1 h.m).1, (fewM_iff.1 h.m).2, h.fr, h.d, fun i hi => by have := h.dd i hi; omega, fun i hi => by have h1 : r.k.z[i]!.r.z.size ≤ 100 ∧ r.k.z[i]!.a.z.size ≤ 100 := fewK_iff.1 (h.kk i hi); omega⟩
theorem RdP.tab {w : World} {r : RP} (h : RdP w r) (hf : FewC r) : RdT w r.e.A r.e.z := ⟨h.e.rd, fun i hi => (h.e.el i hi).few (hf.ee i hi).1 (hf.ee i hi).2, hf.es⟩
end Go.Proofs.YtnmojicfmcbgmaaGreat
namespace Go.Proofs.YtnmojicfmcbgmaaGreat
open Go.RowKit Go.Sort Go.Lib
set_option maxRecDepth 100000
/-- One of the first n is so. -/
def anyN (n : Nat) (p : Nat → Bool) : Bool := (List.range n).any p
theorem anyN_yes {n : Nat} {p : Nat → Bool} (j : Nat) (hj : j < n) (h : p j = true) : anyN n p = true := by
  unfold anyN; rw [List.any_eq_true]; exact ⟨j, List.mem_range.2 hj, h⟩
theorem anyN_no {n : Nat} {p : Nat → Bool} (h : ∀ j, j < n → p j = false) : anyN n p = false := by
  unfold anyN; rw [List.any_eq_false]; intro j hj; rw [h j (List.mem_range.1 hj)]; exact Bool.false_ne_true
def IdxQ (p : Nat → Bool) (n : Nat) (e : Ending) : Prop := ∃ r : Int, e = .returned (.int .i64 r) ∧ ((0 ≤ r ∧ anyN n p = true) ∨ (r = -1 ∧ anyN n p = false))
set_option maxHeartbeats 4000000 in
theorem keIdx (p : Nat → Bool) (g : Nat) (lb : Array Value) (eg : ∀ args w, (callFunc g args).run Tryz.prog w = .ok (.enter g args) w) (A : Option Addr) (c : Nat) (d : Array (KE)) (w : World) (h : RdK encKE 3 w.heap.size w A d) (hs : d.size ≤ 1000000)
    (hp : ∀ i, i < d.size → ∀ W, Below w.heap.size w W → Calls Tryz.prog g (#[.agg (encKE d[i]!).toArray] ++ lb) W fun e w' => e = .returned (.bool (p i)) ∧ Below W.heap.size W w') :
    Calls Tryz.prog 134 #[.slice A d.size c, .func (.func g) #[] lb] w fun e w' => IdxQ p d.size e ∧ Below w.heap.size w w' := by
  have HR := Lib.hid h
  have HP := Lib.hid hp
  clear h hp
  go_enter Tryz.func134, Tryz.ntmps134
  go_wp2
  go_loopw [8] (fun i wr => ∃ k : Nat, i = .int .i64 k ∧ k ≤ d.size ∧ Hid (∀ j, j < k → p j = false) ∧ Hid (Below w.heap.size w wr)) (fun i _ => d.size - (intOf i).toNat)
  case atStart => exact ⟨0, rfl, Nat.zero_le _, Lib.hid (fun j hj => absurd hj (by omega)), Lib.hid (Below.refl _ _)⟩
  case round =>
    obtain ⟨k, rfl, hk, hall, HB⟩ := hrel
    by_cases hlt : k < d.size
    · have kz : (k : Int) < (d.size : Int) := by omega
      obtain ⟨b, off, rfl, hbl, f⟩ := (HR.out.below HB.out).at_ (i := k) (by omega)
      have e0 := f 0 (by omega)
      have e1 := f 1 (by omega)
      have e2 := f 2 (by omega)
      have HC := Lib.hid (fun W hb => HP.out k hlt W hb)
      obtain ⟨x, hx⟩ : ∃ x, d[k]! = x := ⟨_, rfl⟩
      obtain ⟨q, hq⟩ : ∃ q, p k = q := ⟨_, rfl⟩
      rw [hx, hq] at HC
      rw [hx] at e0 e1 e2
      have HQ := Lib.hid hq
      clear f hx hq
      simp only [Nat.add_zero, encKE, List.getElem!_cons_zero, List.getElem!_cons_succ] at e0 e1 e2 HC
      cases q
      · go_wp2_with fail
        refine (HC.out _ HB.out).mono ?_
        rintro e w' ⟨rfl, hb'⟩
        have HB2 := Lib.hid (belStep HB.out hb')
        clear hb'
        go_wp2
        go_roundw
        case rel =>
          refine ⟨k + 1, by go_num, by omega, Lib.hid (fun j hj => ?_), HB2⟩
          rcases Nat.lt_or_ge j k with h | h
          · exact hall.out j h
          · obtain rfl : j = k := by omega
            exact HQ.out
        case measure => simp [intOf]; omega
      · go_wp2_with fail
        refine (HC.out _ HB.out).mono ?_
        rintro e w' ⟨rfl, hb'⟩
        have HB2 := Lib.hid (belStep HB.out hb')
        clear hb'
        go_wp2
        go_ret
        exact ⟨⟨k, rfl, Or.inl ⟨by omega, anyN_yes k (by omega) HQ.out⟩⟩, HB2.out⟩
    · have hlt' : decide ((k : Int) < (d.size : Int)) = false := by simp; omega
      go_wp2
      go_ret
      exact ⟨⟨-1, rfl, Or.inr ⟨rfl, anyN_no fun j hj => hall.out j (by omega)⟩⟩, HB.out⟩
set_option maxHeartbeats 2000000 in
theorem keCont (p : Nat → Bool) (g : Nat) (lb : Array Value) (eg : ∀ args w, (callFunc g args).run Tryz.prog w = .ok (.enter g args) w) (A : Option Addr) (c : Nat) (d : Array (KE)) (w : World) (h : RdK encKE 3 w.heap.size w A d) (hs : d.size ≤ 1000000)
    (hp : ∀ i, i < d.size → ∀ W, Below w.heap.size w W → Calls Tryz.prog g (#[.agg (encKE d[i]!).toArray] ++ lb) W fun e w' => e = .returned (.bool (p i)) ∧ Below W.heap.size W w') :
    Calls Tryz.prog 80 #[.slice A d.size c, .func (.func g) #[] lb] w fun e w' => e = .returned (.bool (anyN d.size p)) ∧ Below w.heap.size w w' := by
  have HI := Lib.hid (keIdx p g lb eg A c d w h hs hp)
  clear h hp
  go_enter Tryz.func80, Tryz.ntmps80
  go_wp2_with fail
  refine HI.out.mono ?_
  rintro e w' ⟨⟨r, rfl, hr⟩, hb⟩
  have HB := Lib.hid hb
  clear hb
  rcases hr with ⟨h1, h2⟩ | ⟨h1, h2⟩
  · have h1' : decide (0 ≤ r) = true := decide_eq_true h1
    go_wp2
    go_ret
    exact ⟨ret_bool h2.symm, HB.out⟩
  · subst h1
    go_wp2
    go_ret
    exact ⟨ret_bool h2.symm, HB.out⟩
set_option maxHeartbeats 4000000 in
theorem rrIdx (p : Nat → Bool) (g : Nat) (lb : Array Value) (eg : ∀ args w, (callFunc g args).run Tryz.prog w = .ok (.enter g args) w) (A : Option Addr) (c : Nat) (d : Array (RW (Int × Int))) (w : World) (h : RdK encW 1 w.heap.size w A d) (hs : d.size ≤ 1000000)
    (hp : ∀ i, i < d.size → ∀ W, Below w.heap.size w W → Calls Tryz.prog g (#[.slice d[i]!.A d[i]!.z.size d[i]!.c] ++ lb) W fun e w' => e = .returned (.bool (p i)) ∧ Below W.heap.size W w') :
    Calls Tryz.prog 137 #[.slice A d.size c, .func (.func g) #[] lb] w fun e w' => IdxQ p d.size e ∧ Below w.heap.size w w' := by
  have HR := Lib.hid h
  have HP := Lib.hid hp
  clear h hp
  go_enter Tryz.func137, Tryz.ntmps137
  go_wp2
  go_loopw [8] (fun i wr => ∃ k : Nat, i = .int .i64 k ∧ k ≤ d.size ∧ Hid (∀ j, j < k → p j = false) ∧ Hid (Below w.heap.size w wr)) (fun i _ => d.size - (intOf i).toNat)
  case atStart => exact ⟨0, rfl, Nat.zero_le _, Lib.hid (fun j hj => absurd hj (by omega)), Lib.hid (Below.refl _ _)⟩
  case round =>
    obtain ⟨k, rfl, hk, hall, HB⟩ := hrel
    by_cases hlt : k < d.size
    · have kz : (k : Int) < (d.size : Int) := by omega
      obtain ⟨b, off, rfl, hbl, f⟩ := (HR.out.below HB.out).at_ (i := k) (by omega)
      have e0 := f 0 (by omega)
      have HC := Lib.hid (fun W hb => HP.out k hlt W hb)
      obtain ⟨x, hx⟩ : ∃ x, d[k]! = x := ⟨_, rfl⟩
      obtain ⟨q, hq⟩ : ∃ q, p k = q := ⟨_, rfl⟩
      rw [hx, hq] at HC
      rw [hx] at e0
      have HQ := Lib.hid hq
      clear f hx hq
      simp only [Nat.add_zero, Nat.mul_one, encW, RW.v, List.getElem!_cons_zero] at e0
      cases q
      · go_wp2_with fail
        refine (HC.out _ HB.out).mono ?_
        rintro e w' ⟨rfl, hb'⟩
        have HB2 := Lib.hid (belStep HB.out hb')
        clear hb'
        go_wp2
        go_roundw
        case rel =>
          refine ⟨k + 1, by go_num, by omega, Lib.hid (fun j hj => ?_), HB2⟩
          rcases Nat.lt_or_ge j k with h | h
          · exact hall.out j h
          · obtain rfl : j = k := by omega
            exact HQ.out
        case measure => simp [intOf]; omega
      · go_wp2_with fail
        refine (HC.out _ HB.out).mono ?_
        rintro e w' ⟨rfl, hb'⟩
        have HB2 := Lib.hid (belStep HB.out hb')
        clear hb'
        go_wp2
        go_ret
        exact ⟨⟨k, rfl, Or.inl ⟨by omega, anyN_yes k (by omega) HQ.out⟩⟩, HB2.out⟩
    · have hlt' : decide ((k : Int) < (d.size : Int)) = false := by simp; omega
      go_wp2
      go_ret
      exact ⟨⟨-1, rfl, Or.inr ⟨rfl, anyN_no fun j hj => hall.out j (by omega)⟩⟩, HB.out⟩
set_option maxHeartbeats 2000000 in
theorem rrCont (p : Nat → Bool) (g : Nat) (lb : Array Value) (eg : ∀ args w, (callFunc g args).run Tryz.prog w = .ok (.enter g args) w) (A : Option Addr) (c : Nat) (d : Array (RW (Int × Int))) (w : World) (h : RdK encW 1 w.heap.size w A d) (hs : d.size ≤ 1000000)
    (hp : ∀ i, i < d.size → ∀ W, Below w.heap.size w W → Calls Tryz.prog g (#[.slice d[i]!.A d[i]!.z.size d[i]!.c] ++ lb) W fun e w' => e = .returned (.bool (p i)) ∧ Below W.heap.size W w') :
    Calls Tryz.prog 85 #[.slice A d.size c, .func (.func g) #[] lb] w fun e w' => e = .returned (.bool (anyN d.size p)) ∧ Below w.heap.size w w' := by
  have HI := Lib.hid (rrIdx p g lb eg A c d w h hs hp)
  clear h hp
  go_enter Tryz.func85, Tryz.ntmps85
  go_wp2_with fail
  refine HI.out.mono ?_
  rintro e w' ⟨⟨r, rfl, hr⟩, hb⟩
  have HB := Lib.hid hb
  clear hb
  rcases hr with ⟨h1, h2⟩ | ⟨h1, h2⟩
  · have h1' : decide (0 ≤ r) = true := decide_eq_true h1
    go_wp2
    go_ret
    exact ⟨ret_bool h2.symm, HB.out⟩
  · subst h1
    go_wp2
    go_ret
    exact ⟨ret_bool h2.symm, HB.out⟩
/-- Two rows of n and m are alike in all places. -/
def allN (n m : Nat) (p : Nat → Bool) : Bool := decide (n = m) && (List.range n).all p
theorem allN_yes {n m : Nat} {p : Nat → Bool} (h : n = m) (g : ∀ j, j < n → p j = true) : allN n m p = true := by
  unfold allN; rw [Bool.and_eq_true, decide_eq_true_eq, List.all_eq_true]; exact ⟨h, fun j hj => g j (List.mem_range.1 hj)⟩
theorem allN_no {n m : Nat} {p : Nat → Bool} (j : Nat) (hj : j < n) (h : p j = false) : allN n m p = false := by
  rw [Bool.eq_false_iff]
  intro hc
  unfold allN at hc
  rw [Bool.and_eq_true, List.all_eq_true] at hc
  rw [hc.2 j (List.mem_range.2 hj)] at h
  cases h
theorem allN_ne {n m : Nat} {p : Nat → Bool} (h : ¬ n = m) : allN n m p = false := by
  unfold allN; rw [decide_eq_false h]; rfl
set_option maxHeartbeats 8000000 in
theorem keEq (p : Nat → Bool) (g : Nat) (eg : ∀ args w, (callFunc g args).run Tryz.prog w = .ok (.enter g args) w) (A1 A2 : Option Addr) (c1 c2 : Nat) (d1 d2 : Array (KE)) (w : World) (h1 : RdK encKE 3 w.heap.size w A1 d1) (h2 : RdK encKE 3 w.heap.size w A2 d2) (hs1 : d1.size ≤ 1000000)
    (hp : ∀ i, i < d1.size → i < d2.size → ∀ W, Below w.heap.size w W → Calls Tryz.prog g #[.agg (encKE d1[i]!).toArray, .agg (encKE d2[i]!).toArray] W fun e w' => e = .returned (.bool (p i)) ∧ Below W.heap.size W w') :
    Calls Tryz.prog 94 #[.slice A1 d1.size c1, .slice A2 d2.size c2, .func (.func g) #[] #[]] w fun e w' => e = .returned (.bool (allN d1.size d2.size p)) ∧ Below w.heap.size w w' := by
  have HR1 := Lib.hid h1
  have HR2 := Lib.hid h2
  have HP := Lib.hid hp
  clear h1 h2 hp
  by_cases hs : d1.size = d2.size
  · have hb : ((d1.size : Int) != (d2.size : Int)) = false := by simp [hs]
    have HS := Lib.hid hs
    have hge : d1.size ≤ d2.size := by omega
    clear hs
    go_enter Tryz.func94, Tryz.ntmps94
    go_wp2
    go_loopw [17] (fun i wr => ∃ k : Nat, i = .int .i64 k ∧ k ≤ d1.size ∧ Hid (∀ j, j < k → p j = true) ∧ Hid (Below w.heap.size w wr)) (fun i _ => d1.size - (intOf i).toNat)
    case atStart => exact ⟨0, rfl, Nat.zero_le _, Lib.hid (fun j hj => absurd hj (by omega)), Lib.hid (Below.refl _ _)⟩
    case round =>
      obtain ⟨k, rfl, hk, hall, HB⟩ := hrel
      by_cases hlt : k < d1.size
      · have kz : (k : Int) < (d1.size : Int) := by omega
        have kz2 : (k : Int) < (d2.size : Int) := by omega
        obtain ⟨b1, o1, rfl, hl1, f1⟩ := (HR1.out.below HB.out).at_ (i := k) (by omega)
        obtain ⟨b2, o2, rfl, hl2, f2⟩ := (HR2.out.below HB.out).at_ (i := k) (by omega)
        have e0 := f1 0 (by omega)
        have e1 := f1 1 (by omega)
        have e2 := f1 2 (by omega)
        have g0 := f2 0 (by omega)
        have g1 := f2 1 (by omega)
        have g2 := f2 2 (by omega)
        have HC := Lib.hid (fun W hb => HP.out k hlt (by omega) W hb)
        obtain ⟨x, hx⟩ : ∃ x, d1[k]! = x := ⟨_, rfl⟩
        obtain ⟨y, hy⟩ : ∃ y, d2[k]! = y := ⟨_, rfl⟩
        obtain ⟨q, hq⟩ : ∃ q, p k = q := ⟨_, rfl⟩
        rw [hx, hy, hq] at HC
        rw [hx] at e0 e1 e2
        rw [hy] at g0 g1 g2
        have HQ := Lib.hid hq
        clear f1 f2 hx hy hq
        simp only [Nat.add_zero, encKE, List.getElem!_cons_zero, List.getElem!_cons_succ] at e0 e1 e2 g0 g1 g2 HC
        have hw1 : b1 < wr.heap.size := Nat.lt_of_lt_of_le hl1 HB.out.size
        have hw2 : b2 < wr.heap.size := Nat.lt_of_lt_of_le hl2 HB.out.size
        have HB3 := Lib.hid (belStep HB.out (belAlloc (bel1 wr (.cells #[.int .i64 x.base, .slice x.r.A x.r.z.size x.r.c, .slice x.a.A x.a.z.size x.a.c] 53)) (.cells #[.int .i64 y.base, .slice y.r.A y.r.z.size y.r.c, .slice y.a.A y.a.z.size y.a.c] 53)))
        cases q
        all_goals
          go_wp2_with fail
          refine (HC.out _ HB3.out).mono ?_
          rintro e w' ⟨rfl, hbW⟩
          have HW := Lib.hid (belStep HB3.out hbW)
          clear hbW
          go_wp2
          first
            | (go_roundw
               case rel =>
                 refine ⟨k + 1, by go_num, by omega, Lib.hid (fun j hj => ?_), HW⟩
                 rcases Nat.lt_or_ge j k with h | h
                 · exact hall.out j h
                 · obtain rfl : j = k := by omega
                   exact HQ.out
               case measure => simp [intOf]; omega)
            | (go_ret
               exact ⟨ret_bool (allN_no k hlt HQ.out).symm, HW.out⟩)
      · have hlt' : decide ((k : Int) < (d1.size : Int)) = false := by simp; omega
        go_wp2
        go_ret
        exact ⟨ret_bool (allN_yes HS.out fun i hi => hall.out i (by omega)).symm, HB.out⟩
  · have hb : ((d1.size : Int) != (d2.size : Int)) = true := by simp; omega
    have HF : Hid (allN d1.size d2.size p = false) := allN_ne hs
    clear hs
    go_enter Tryz.func94, Tryz.ntmps94
    go_wp2
    go_ret
    exact ⟨ret_bool HF.out.symm, Below.refl _ _⟩
set_option maxHeartbeats 8000000 in
theorem rrEq (p : Nat → Bool) (g : Nat) (eg : ∀ args w, (callFunc g args).run Tryz.prog w = .ok (.enter g args) w) (A1 A2 : Option Addr) (c1 c2 : Nat) (d1 d2 : Array (RW (Int × Int))) (w : World) (h1 : RdK encW 1 w.heap.size w A1 d1) (h2 : RdK encW 1 w.heap.size w A2 d2) (hs1 : d1.size ≤ 1000000)
    (hp : ∀ i, i < d1.size → i < d2.size → ∀ W, Below w.heap.size w W → Calls Tryz.prog g #[.slice d1[i]!.A d1[i]!.z.size d1[i]!.c, .slice d2[i]!.A d2[i]!.z.size d2[i]!.c] W fun e w' => e = .returned (.bool (p i)) ∧ Below W.heap.size W w') :
    Calls Tryz.prog 97 #[.slice A1 d1.size c1, .slice A2 d2.size c2, .func (.func g) #[] #[]] w fun e w' => e = .returned (.bool (allN d1.size d2.size p)) ∧ Below w.heap.size w w' := by
  have HR1 := Lib.hid h1
  have HR2 := Lib.hid h2
  have HP := Lib.hid hp
  clear h1 h2 hp
  by_cases hs : d1.size = d2.size
  · have hb : ((d1.size : Int) != (d2.size : Int)) = false := by simp [hs]
    have HS := Lib.hid hs
    have hge : d1.size ≤ d2.size := by omega
    clear hs
    go_enter Tryz.func97, Tryz.ntmps97
    go_wp2
    go_loopw [17] (fun i wr => ∃ k : Nat, i = .int .i64 k ∧ k ≤ d1.size ∧ Hid (∀ j, j < k → p j = true) ∧ Hid (Below w.heap.size w wr)) (fun i _ => d1.size - (intOf i).toNat)
    case atStart => exact ⟨0, rfl, Nat.zero_le _, Lib.hid (fun j hj => absurd hj (by omega)), Lib.hid (Below.refl _ _)⟩
    case round =>
      obtain ⟨k, rfl, hk, hall, HB⟩ := hrel
      by_cases hlt : k < d1.size
      · have kz : (k : Int) < (d1.size : Int) := by omega
        have kz2 : (k : Int) < (d2.size : Int) := by omega
        obtain ⟨b1, o1, rfl, hl1, f1⟩ := (HR1.out.below HB.out).at_ (i := k) (by omega)
        obtain ⟨b2, o2, rfl, hl2, f2⟩ := (HR2.out.below HB.out).at_ (i := k) (by omega)
        have e0 := f1 0 (by omega)
        have g0 := f2 0 (by omega)
        have HC := Lib.hid (fun W hb => HP.out k hlt (by omega) W hb)
        obtain ⟨x, hx⟩ : ∃ x, d1[k]! = x := ⟨_, rfl⟩
        obtain ⟨y, hy⟩ : ∃ y, d2[k]! = y := ⟨_, rfl⟩
        obtain ⟨q, hq⟩ : ∃ q, p k = q := ⟨_, rfl⟩
        rw [hx, hy, hq] at HC
        rw [hx] at e0
        rw [hy] at g0
        have HQ := Lib.hid hq
        clear f1 f2 hx hy hq
        simp only [Nat.add_zero, Nat.mul_one, encW, RW.v, List.getElem!_cons_zero] at e0 g0
        have hw1 : b1 < wr.heap.size := Nat.lt_of_lt_of_le hl1 HB.out.size
        have hw2 : b2 < wr.heap.size := Nat.lt_of_lt_of_le hl2 HB.out.size
        cases q
        all_goals
          go_wp2_with fail
          refine (HC.out _ HB.out).mono ?_
          rintro e w' ⟨rfl, hbW⟩
          have HW := Lib.hid (belStep HB.out hbW)
          clear hbW
          go_wp2
          first
            | (go_roundw
               case rel =>
                 refine ⟨k + 1, by go_num, by omega, Lib.hid (fun j hj => ?_), HW⟩
                 rcases Nat.lt_or_ge j k with h | h
                 · exact hall.out j h
                 · obtain rfl : j = k := by omega
                   exact HQ.out
               case measure => simp [intOf]; omega)
            | (go_ret
               exact ⟨ret_bool (allN_no k hlt HQ.out).symm, HW.out⟩)
      · have hlt' : decide ((k : Int) < (d1.size : Int)) = false := by simp; omega
        go_wp2
        go_ret
        exact ⟨ret_bool (allN_yes HS.out fun i hi => hall.out i (by omega)).symm, HB.out⟩
  · have hb : ((d1.size : Int) != (d2.size : Int)) = true := by simp; omega
    have HF : Hid (allN d1.size d2.size p = false) := allN_ne hs
    clear hs
    go_enter Tryz.func97, Tryz.ntmps97
    go_wp2
    go_ret
    exact ⟨ret_bool HF.out.symm, Below.refl _ _⟩
set_option maxHeartbeats 8000000 in
theorem irEq (p : Nat → Bool) (g : Nat) (eg : ∀ args w, (callFunc g args).run Tryz.prog w = .ok (.enter g args) w) (A1 A2 : Option Addr) (c1 c2 : Nat) (d1 d2 : Array (RW Int)) (w : World) (h1 : RdK encW 1 w.heap.size w A1 d1) (h2 : RdK encW 1 w.heap.size w A2 d2) (hs1 : d1.size ≤ 1000000)
    (hp : ∀ i, i < d1.size → i < d2.size → ∀ W, Below w.heap.size w W → Calls Tryz.prog g #[.slice d1[i]!.A d1[i]!.z.size d1[i]!.c, .slice d2[i]!.A d2[i]!.z.size d2[i]!.c] W fun e w' => e = .returned (.bool (p i)) ∧ Below W.heap.size W w') :
    Calls Tryz.prog 95 #[.slice A1 d1.size c1, .slice A2 d2.size c2, .func (.func g) #[] #[]] w fun e w' => e = .returned (.bool (allN d1.size d2.size p)) ∧ Below w.heap.size w w' := by
  have HR1 := Lib.hid h1
  have HR2 := Lib.hid h2
  have HP := Lib.hid hp
  clear h1 h2 hp
  by_cases hs : d1.size = d2.size
  · have hb : ((d1.size : Int) != (d2.size : Int)) = false := by simp [hs]
    have HS := Lib.hid hs
    have hge : d1.size ≤ d2.size := by omega
    clear hs
    go_enter Tryz.func95, Tryz.ntmps95
    go_wp2
    go_loopw [17] (fun i wr => ∃ k : Nat, i = .int .i64 k ∧ k ≤ d1.size ∧ Hid (∀ j, j < k → p j = true) ∧ Hid (Below w.heap.size w wr)) (fun i _ => d1.size - (intOf i).toNat)
    case atStart => exact ⟨0, rfl, Nat.zero_le _, Lib.hid (fun j hj => absurd hj (by omega)), Lib.hid (Below.refl _ _)⟩
    case round =>
      obtain ⟨k, rfl, hk, hall, HB⟩ := hrel
      by_cases hlt : k < d1.size
      · have kz : (k : Int) < (d1.size : Int) := by omega
        have kz2 : (k : Int) < (d2.size : Int) := by omega
        obtain ⟨b1, o1, rfl, hl1, f1⟩ := (HR1.out.below HB.out).at_ (i := k) (by omega)
        obtain ⟨b2, o2, rfl, hl2, f2⟩ := (HR2.out.below HB.out).at_ (i := k) (by omega)
        have e0 := f1 0 (by omega)
        have g0 := f2 0 (by omega)
        have HC := Lib.hid (fun W hb => HP.out k hlt (by omega) W hb)
        obtain ⟨x, hx⟩ : ∃ x, d1[k]! = x := ⟨_, rfl⟩
        obtain ⟨y, hy⟩ : ∃ y, d2[k]! = y := ⟨_, rfl⟩
        obtain ⟨q, hq⟩ : ∃ q, p k = q := ⟨_, rfl⟩
        rw [hx, hy, hq] at HC
        rw [hx] at e0
        rw [hy] at g0
        have HQ := Lib.hid hq
        clear f1 f2 hx hy hq
        simp only [Nat.add_zero, Nat.mul_one, encW, RW.v, List.getElem!_cons_zero] at e0 g0
        have hw1 : b1 < wr.heap.size := Nat.lt_of_lt_of_le hl1 HB.out.size
        have hw2 : b2 < wr.heap.size := Nat.lt_of_lt_of_le hl2 HB.out.size
        cases q
        all_goals
          go_wp2_with fail
          refine (HC.out _ HB.out).mono ?_
          rintro e w' ⟨rfl, hbW⟩
          have HW := Lib.hid (belStep HB.out hbW)
          clear hbW
          go_wp2
          first
            | (go_roundw
               case rel =>
                 refine ⟨k + 1, by go_num, by omega, Lib.hid (fun j hj => ?_), HW⟩
                 rcases Nat.lt_or_ge j k with h | h
                 · exact hall.out j h
                 · obtain rfl : j = k := by omega
                   exact HQ.out
               case measure => simp [intOf]; omega)
            | (go_ret
               exact ⟨ret_bool (allN_no k hlt HQ.out).symm, HW.out⟩)
      · have hlt' : decide ((k : Int) < (d1.size : Int)) = false := by simp; omega
        go_wp2
        go_ret
        exact ⟨ret_bool (allN_yes HS.out fun i hi => hall.out i (by omega)).symm, HB.out⟩
  · have hb : ((d1.size : Int) != (d2.size : Int)) = true := by simp; omega
    have HF : Hid (allN d1.size d2.size p = false) := allN_ne hs
    clear hs
    go_enter Tryz.func95, Tryz.ntmps95
    go_wp2
    go_ret
    exact ⟨ret_bool HF.out.symm, Below.refl _ _⟩
set_option maxHeartbeats 8000000 in
theorem rSame18 (p : Nat → Bool) (A1 A2 : Option Addr) (c1 c2 : Nat) (d1 d2 : Array (RW Int)) (w : World) (h1 : RdK encW 1 w.heap.size w A1 d1) (h2 : RdK encW 1 w.heap.size w A2 d2) (hs1 : d1.size ≤ 1000000)
    (hp : ∀ i, i < d1.size → i < d2.size → ∀ W, Below w.heap.size w W → Calls Tryz.prog 13 #[.slice d1[i]!.A d1[i]!.z.size d1[i]!.c, .slice d2[i]!.A d2[i]!.z.size d2[i]!.c] W fun e w' => e = .returned (.bool (p i)) ∧ Below W.heap.size W w') :
    Calls Tryz.prog 54 #[.slice A1 d1.size c1, .slice A2 d2.size c2] w fun e w' => e = .returned (.bool (allN d1.size d2.size p)) ∧ Below w.heap.size w w' := by
  have HR1 := Lib.hid h1
  have HR2 := Lib.hid h2
  have HP := Lib.hid hp
  clear h1 h2 hp
  by_cases hs : d1.size = d2.size
  · have hb : ((d1.size : Int) != (d2.size : Int)) = false := by simp [hs]
    have HS := Lib.hid hs
    have hge : d1.size ≤ d2.size := by omega
    clear hs
    go_enter Tryz.func54, Tryz.ntmps54
    go_wp2
    go_loopw [5] (fun i wr => ∃ k : Nat, i = .int .i64 k ∧ k ≤ d1.size ∧ Hid (∀ j, j < k → p j = true) ∧ Hid (Below w.heap.size w wr)) (fun i _ => d1.size - (intOf i).toNat)
    case atStart => exact ⟨0, rfl, Nat.zero_le _, Lib.hid (fun j hj => absurd hj (by omega)), Lib.hid (Below.refl _ _)⟩
    case round =>
      obtain ⟨k, rfl, hk, hall, HB⟩ := hrel
      by_cases hlt : k < d1.size
      · have kz : (k : Int) < (d1.size : Int) := by omega
        have kz2 : (k : Int) < (d2.size : Int) := by omega
        obtain ⟨b1, o1, rfl, hl1, f1⟩ := (HR1.out.below HB.out).at_ (i := k) (by omega)
        obtain ⟨b2, o2, rfl, hl2, f2⟩ := (HR2.out.below HB.out).at_ (i := k) (by omega)
        have e0 := f1 0 (by omega)
        have g0 := f2 0 (by omega)
        have HC := Lib.hid (fun W hb => HP.out k hlt (by omega) W hb)
        obtain ⟨x, hx⟩ : ∃ x, d1[k]! = x := ⟨_, rfl⟩
        obtain ⟨y, hy⟩ : ∃ y, d2[k]! = y := ⟨_, rfl⟩
        obtain ⟨q, hq⟩ : ∃ q, p k = q := ⟨_, rfl⟩
        rw [hx, hy, hq] at HC
        rw [hx] at e0
        rw [hy] at g0
        have HQ := Lib.hid hq
        clear f1 f2 hx hy hq
        simp only [Nat.add_zero, Nat.mul_one, encW, RW.v, List.getElem!_cons_zero] at e0 g0
        have hw1 : b1 < wr.heap.size := Nat.lt_of_lt_of_le hl1 HB.out.size
        have hw2 : b2 < wr.heap.size := Nat.lt_of_lt_of_le hl2 HB.out.size
        have r0 := fun p : ExtW wr => p.cell (a := ⟨b1, o1 + k, none⟩) hw1 e0
        have s0 := fun p : ExtW wr => p.cell (a := ⟨b2, o2 + k, none⟩) hw2 g0
        clear e0 g0
        cases q
        all_goals
          go_wp2_with fail
          refine wp_region_ext (by kernel_rfl) (by kernel_rfl) ?_
          repeat (first | go_big_quiet_step ((go_at_call 13; exact Calls.ext_of (HC.out _ (belStep HB.out (ExtW.h _))))) | quiet_step (fail))
          refine wpQuiet_nil ?_
          intro w' hw'
          obtain ⟨⟨W, hbW⟩, hw''⟩ := hw'
          have hw3 : w' = W := hw''
          subst hw3
          have HW := Lib.hid (belStep HB.out hbW)
          clear hbW hw'' r0 s0
          go_wp2
          first
            | (go_roundw
               case rel =>
                 refine ⟨k + 1, by go_num, by omega, Lib.hid (fun j hj => ?_), HW⟩
                 rcases Nat.lt_or_ge j k with h | h
                 · exact hall.out j h
                 · obtain rfl : j = k := by omega
                   exact HQ.out
               case measure => simp [intOf]; omega)
            | (go_ret
               exact ⟨ret_bool (allN_no k hlt HQ.out).symm, HW.out⟩)
      · have hlt' : decide ((k : Int) < (d1.size : Int)) = false := by simp; omega
        go_wp2
        go_ret
        exact ⟨ret_bool (allN_yes HS.out fun i hi => hall.out i (by omega)).symm, HB.out⟩
  · have hb : ((d1.size : Int) != (d2.size : Int)) = true := by simp; omega
    have HF : Hid (allN d1.size d2.size p = false) := allN_ne hs
    clear hs
    go_enter Tryz.func54, Tryz.ntmps54
    go_wp2
    go_ret
    exact ⟨ret_bool HF.out.symm, Below.refl _ _⟩
set_option maxHeartbeats 8000000 in
theorem rSameDone (p : Nat → Bool) (A1 A2 : Option Addr) (c1 c2 : Nat) (d1 d2 : Array (RW (Int × Int))) (w : World) (h1 : RdK encW 1 w.heap.size w A1 d1) (h2 : RdK encW 1 w.heap.size w A2 d2) (hs1 : d1.size ≤ 1000000)
    (hp : ∀ i, i < d1.size → i < d2.size → ∀ W, Below w.heap.size w W → Calls Tryz.prog 100 #[.slice d1[i]!.A d1[i]!.z.size d1[i]!.c, .slice d2[i]!.A d2[i]!.z.size d2[i]!.c] W fun e w' => e = .returned (.bool (p i)) ∧ Below W.heap.size W w') :
    Calls Tryz.prog 55 #[.slice A1 d1.size c1, .slice A2 d2.size c2] w fun e w' => e = .returned (.bool (allN d1.size d2.size p)) ∧ Below w.heap.size w w' := by
  have HR1 := Lib.hid h1
  have HR2 := Lib.hid h2
  have HP := Lib.hid hp
  clear h1 h2 hp
  by_cases hs : d1.size = d2.size
  · have hb : ((d1.size : Int) != (d2.size : Int)) = false := by simp [hs]
    have HS := Lib.hid hs
    have hge : d1.size ≤ d2.size := by omega
    clear hs
    go_enter Tryz.func55, Tryz.ntmps55
    go_wp2
    go_loopw [5] (fun i wr => ∃ k : Nat, i = .int .i64 k ∧ k ≤ d1.size ∧ Hid (∀ j, j < k → p j = true) ∧ Hid (Below w.heap.size w wr)) (fun i _ => d1.size - (intOf i).toNat)
    case atStart => exact ⟨0, rfl, Nat.zero_le _, Lib.hid (fun j hj => absurd hj (by omega)), Lib.hid (Below.refl _ _)⟩
    case round =>
      obtain ⟨k, rfl, hk, hall, HB⟩ := hrel
      by_cases hlt : k < d1.size
      · have kz : (k : Int) < (d1.size : Int) := by omega
        have kz2 : (k : Int) < (d2.size : Int) := by omega
        obtain ⟨b1, o1, rfl, hl1, f1⟩ := (HR1.out.below HB.out).at_ (i := k) (by omega)
        obtain ⟨b2, o2, rfl, hl2, f2⟩ := (HR2.out.below HB.out).at_ (i := k) (by omega)
        have e0 := f1 0 (by omega)
        have g0 := f2 0 (by omega)
        have HC := Lib.hid (fun W hb => HP.out k hlt (by omega) W hb)
        obtain ⟨x, hx⟩ : ∃ x, d1[k]! = x := ⟨_, rfl⟩
        obtain ⟨y, hy⟩ : ∃ y, d2[k]! = y := ⟨_, rfl⟩
        obtain ⟨q, hq⟩ : ∃ q, p k = q := ⟨_, rfl⟩
        rw [hx, hy, hq] at HC
        rw [hx] at e0
        rw [hy] at g0
        have HQ := Lib.hid hq
        clear f1 f2 hx hy hq
        simp only [Nat.add_zero, Nat.mul_one, encW, RW.v, List.getElem!_cons_zero] at e0 g0
        have hw1 : b1 < wr.heap.size := Nat.lt_of_lt_of_le hl1 HB.out.size
        have hw2 : b2 < wr.heap.size := Nat.lt_of_lt_of_le hl2 HB.out.size
        have r0 := fun p : ExtW wr => p.cell (a := ⟨b1, o1 + k, none⟩) hw1 e0
        have s0 := fun p : ExtW wr => p.cell (a := ⟨b2, o2 + k, none⟩) hw2 g0
        clear e0 g0
        cases q
        all_goals
          go_wp2_with fail
          refine wp_region_ext (by kernel_rfl) (by kernel_rfl) ?_
          repeat (first | go_big_quiet_step ((go_at_call 100; exact Calls.ext_of (HC.out _ (belStep HB.out (ExtW.h _))))) | quiet_step (fail))
          refine wpQuiet_nil ?_
          intro w' hw'
          obtain ⟨⟨W, hbW⟩, hw''⟩ := hw'
          have hw3 : w' = W := hw''
          subst hw3
          have HW := Lib.hid (belStep HB.out hbW)
          clear hbW hw'' r0 s0
          go_wp2
          first
            | (go_roundw
               case rel =>
                 refine ⟨k + 1, by go_num, by omega, Lib.hid (fun j hj => ?_), HW⟩
                 rcases Nat.lt_or_ge j k with h | h
                 · exact hall.out j h
                 · obtain rfl : j = k := by omega
                   exact HQ.out
               case measure => simp [intOf]; omega)
            | (go_ret
               exact ⟨ret_bool (allN_no k hlt HQ.out).symm, HW.out⟩)
      · have hlt' : decide ((k : Int) < (d1.size : Int)) = false := by simp; omega
        go_wp2
        go_ret
        exact ⟨ret_bool (allN_yes HS.out fun i hi => hall.out i (by omega)).symm, HB.out⟩
  · have hb : ((d1.size : Int) != (d2.size : Int)) = true := by simp; omega
    have HF : Hid (allN d1.size d2.size p = false) := allN_ne hs
    clear hs
    go_enter Tryz.func55, Tryz.ntmps55
    go_wp2
    go_ret
    exact ⟨ret_bool HF.out.symm, Below.refl _ _⟩
set_option maxHeartbeats 8000000 in
theorem rSameKnown (p : Nat → Bool) (A1 A2 : Option Addr) (c1 c2 : Nat) (d1 d2 : Array (KE)) (w : World) (h1 : RdK encKE 3 w.heap.size w A1 d1) (h2 : RdK encKE 3 w.heap.size w A2 d2) (hs1 : d1.size ≤ 1000000)
    (hp : ∀ i, i < d1.size → i < d2.size → ∀ W, Below w.heap.size w W → Calls Tryz.prog 99 #[.agg (encKE d1[i]!).toArray, .agg (encKE d2[i]!).toArray] W fun e w' => e = .returned (.bool (p i)) ∧ Below W.heap.size W w') :
    Calls Tryz.prog 53 #[.slice A1 d1.size c1, .slice A2 d2.size c2] w fun e w' => e = .returned (.bool (allN d1.size d2.size p)) ∧ Below w.heap.size w w' := by
  have HR1 := Lib.hid h1
  have HR2 := Lib.hid h2
  have HP := Lib.hid hp
  clear h1 h2 hp
  by_cases hs : d1.size = d2.size
  · have hb : ((d1.size : Int) != (d2.size : Int)) = false := by simp [hs]
    have HS := Lib.hid hs
    have hge : d1.size ≤ d2.size := by omega
    clear hs
    go_enter Tryz.func53, Tryz.ntmps53
    go_wp2
    go_loopw [5] (fun i wr => ∃ k : Nat, i = .int .i64 k ∧ k ≤ d1.size ∧ Hid (∀ j, j < k → p j = true) ∧ Hid (Below w.heap.size w wr)) (fun i _ => d1.size - (intOf i).toNat)
    case atStart => exact ⟨0, rfl, Nat.zero_le _, Lib.hid (fun j hj => absurd hj (by omega)), Lib.hid (Below.refl _ _)⟩
    case round =>
      obtain ⟨k, rfl, hk, hall, HB⟩ := hrel
      by_cases hlt : k < d1.size
      · have kz : (k : Int) < (d1.size : Int) := by omega
        have kz2 : (k : Int) < (d2.size : Int) := by omega
        obtain ⟨b1, o1, rfl, hl1, f1⟩ := (HR1.out.below HB.out).at_ (i := k) (by omega)
        obtain ⟨b2, o2, rfl, hl2, f2⟩ := (HR2.out.below HB.out).at_ (i := k) (by omega)
        have e0 := f1 0 (by omega)
        have e1 := f1 1 (by omega)
        have e2 := f1 2 (by omega)
        have g0 := f2 0 (by omega)
        have g1 := f2 1 (by omega)
        have g2 := f2 2 (by omega)
        have HC := Lib.hid (fun W hb => HP.out k hlt (by omega) W hb)
        obtain ⟨x, hx⟩ : ∃ x, d1[k]! = x := ⟨_, rfl⟩
        obtain ⟨y, hy⟩ : ∃ y, d2[k]! = y := ⟨_, rfl⟩
        obtain ⟨q, hq⟩ : ∃ q, p k = q := ⟨_, rfl⟩
        rw [hx, hy, hq] at HC
        rw [hx] at e0 e1 e2
        rw [hy] at g0 g1 g2
        have HQ := Lib.hid hq
        clear f1 f2 hx hy hq
        simp only [Nat.add_zero, encKE, List.getElem!_cons_zero, List.getElem!_cons_succ] at e0 e1 e2 g0 g1 g2 HC
        have hw1 : b1 < wr.heap.size := Nat.lt_of_lt_of_le hl1 HB.out.size
        have hw2 : b2 < wr.heap.size := Nat.lt_of_lt_of_le hl2 HB.out.size
        have r0 := fun p : ExtW wr => p.cell (a := ⟨b1, o1 + k * 3, none⟩) hw1 e0
        have r1 := fun p : ExtW wr => p.cell (a := ⟨b1, o1 + k * 3 + 1, none⟩) hw1 e1
        have r2 := fun p : ExtW wr => p.cell (a := ⟨b1, o1 + k * 3 + 2, none⟩) hw1 e2
        have s0 := fun p : ExtW wr => p.cell (a := ⟨b2, o2 + k * 3, none⟩) hw2 g0
        have s1 := fun p : ExtW wr => p.cell (a := ⟨b2, o2 + k * 3 + 1, none⟩) hw2 g1
        have s2 := fun p : ExtW wr => p.cell (a := ⟨b2, o2 + k * 3 + 2, none⟩) hw2 g2
        clear e0 e1 e2 g0 g1 g2
        cases q
        all_goals
          go_wp2_with fail
          refine wp_region_ext (by kernel_rfl) (by kernel_rfl) ?_
          repeat (first | go_big_quiet_step ((go_at_call 99; exact Calls.ext_of (HC.out _ (belStep HB.out (ExtW.h _))))) | quiet_step (fail))
          refine wpQuiet_nil ?_
          intro w' hw'
          obtain ⟨⟨W, hbW⟩, hw''⟩ := hw'
          have hw3 : w' = W := hw''
          subst hw3
          have HW := Lib.hid (belStep HB.out hbW)
          clear hbW hw'' r0 r1 r2 s0 s1 s2
          go_wp2
          first
            | (go_roundw
               case rel =>
                 refine ⟨k + 1, by go_num, by omega, Lib.hid (fun j hj => ?_), HW⟩
                 rcases Nat.lt_or_ge j k with h | h
                 · exact hall.out j h
                 · obtain rfl : j = k := by omega
                   exact HQ.out
               case measure => simp [intOf]; omega)
            | (go_ret
               exact ⟨ret_bool (allN_no k hlt HQ.out).symm, HW.out⟩)
      · have hlt' : decide ((k : Int) < (d1.size : Int)) = false := by simp; omega
        go_wp2
        go_ret
        exact ⟨ret_bool (allN_yes HS.out fun i hi => hall.out i (by omega)).symm, HB.out⟩
  · have hb : ((d1.size : Int) != (d2.size : Int)) = true := by simp; omega
    have HF : Hid (allN d1.size d2.size p = false) := allN_ne hs
    clear hs
    go_enter Tryz.func53, Tryz.ntmps53
    go_wp2
    go_ret
    exact ⟨ret_bool HF.out.symm, Below.refl _ _⟩
end Go.Proofs.YtnmojicfmcbgmaaGreat
namespace Go.Proofs.YtnmojicfmcbgmaaGreat
open Go.RowKit Go.Sort Go.Lib
set_option maxRecDepth 100000
def rowsB (m : Array (RW Int)) (n : Int) : Bool := decide (3 ≤ n ∧ n ≤ 9) && decide ((m.size : Int) = n) && (List.range m.size).all fun i => decide (marksE m[i]!.z n = 0)
def rowsE (m : Array (RW Int)) (n : Int) : Int := if rowsB m n = true then 0 else 2
theorem rowsB_iff {m : Array (RW Int)} {n : Int} : rowsB m n = true ↔ (3 ≤ n ∧ n ≤ 9) ∧ (m.size : Int) = n ∧ ∀ i, i < m.size → marksE m[i]!.z n = 0 := by
  unfold rowsB
  rw [Bool.and_eq_true, Bool.and_eq_true, decide_eq_true_eq, decide_eq_true_eq, List.all_eq_true]
  constructor
  · rintro ⟨⟨h, h2⟩, g⟩; exact ⟨h, h2, fun i hi => of_decide_eq_true (g i (List.mem_range.2 hi))⟩
  · rintro ⟨h, h2, g⟩; exact ⟨⟨h, h2⟩, fun i hi => decide_eq_true (g i (List.mem_range.1 hi))⟩
theorem rowsE_yes {m : Array (RW Int)} {n : Int} (h : 3 ≤ n ∧ n ≤ 9) (h2 : (m.size : Int) = n) (g : ∀ i, i < m.size → marksE m[i]!.z n = 0) : rowsE m n = 0 := by
  unfold rowsE; rw [if_pos (rowsB_iff.2 ⟨h, h2, g⟩)]
theorem rowsE_no {m : Array (RW Int)} {n : Int} (i : Nat) (hi : i < m.size) (h : marksE m[i]!.z n ≠ 0) : rowsE m n = 2 := by
  unfold rowsE; rw [if_neg fun hc => h ((rowsB_iff.1 hc).2.2 i hi)]
theorem rowsE_out {m : Array (RW Int)} {n : Int} (h : ¬ ((3 ≤ n ∧ n ≤ 9) ∧ (m.size : Int) = n)) : rowsE m n = 2 := by
  unfold rowsE; rw [if_neg fun hc => h ⟨(rowsB_iff.1 hc).1, (rowsB_iff.1 hc).2.1⟩]
theorem rowsE_bool (m : Array (RW Int)) (n : Int) : (rowsE m n != 0) = !rowsB m n := by unfold rowsE; cases rowsB m n <;> rfl
theorem marksE_two (d : Array Int) (n : Int) : marksE d n = 0 ∨ marksE d n = 2 := by unfold marksE; split <;> simp
theorem mostN_bool (n : Int) : (mostN n == 0) = !decide (3 ≤ n ∧ n ≤ 9) := by
  unfold mostN
  by_cases h : n < 3 ∨ 9 < n
  · rw [if_pos h, decide_eq_false (by omega)]; rfl
  · rw [if_neg h, decide_eq_true (by omega)]; simp; omega
set_option maxHeartbeats 8000000 in
theorem swCheck_any (A : Option Addr) (c : Nat) (m : Array (RW Int)) (n : Int) (w : World) (h : RdK encW 1 w.heap.size w A m) (hh : ∀ i, i < m.size → RdJ w m[i]!) (hs : m.size ≤ 1000000) (hz : ∀ i, i < m.size → m[i]!.z.size ≤ 1000000) :
    Calls Tryz.prog 81 #[.slice A m.size c, .int .i64 n] w fun e w' => e = .returned (.int .i64 (rowsE m n)) ∧ Below w.heap.size w w' := by
  have HR := Lib.hid h
  have HP : Hid (∀ i, i < m.size → ∀ W, Below w.heap.size w W → Calls Tryz.prog 82 #[.slice m[i]!.A m[i]!.z.size m[i]!.c, .int .i64 n] W fun e w' => e = .returned (.int .i64 (marksE m[i]!.z n)) ∧ Below W.heap.size W w') := fun i hi W hb => (sCheck_any m[i]!.A m[i]!.c m[i]!.z n _ W ((hh i hi).below hb).rd (by have := hz i hi; omega)).mono fun e w' ⟨he, hw⟩ => ⟨he, hw.mono (Nat.le_refl _)⟩
  clear h hh hz
  have hm := mostN_bool n
  by_cases hmn : (3 ≤ n ∧ n ≤ 9) ∧ (m.size : Int) = n
  rotate_left
  · have HE := Lib.hid (rowsE_out hmn)
    have HM := Lib.hid hmn
    go_enter Tryz.func81, Tryz.ntmps81
    by_cases g1 : 3 ≤ n ∧ n ≤ 9
    · rw [decide_eq_true g1] at hm
      have g2 : ((m.size : Int) != n) = true := by simp; exact fun e => hmn ⟨g1, e⟩
      clear hmn g1
      go_wp2_with (go_at_call 70; refine (Most_any _ _).mono ?_; rintro _ _ ⟨rfl, rfl⟩)
      go_ret
      exact ⟨ret_int HE.out.symm, Below.refl _ _⟩
    · rw [decide_eq_false g1] at hm
      clear hmn g1
      go_wp2_with (go_at_call 70; refine (Most_any _ _).mono ?_; rintro _ _ ⟨rfl, rfl⟩)
      go_ret
      exact ⟨ret_int HE.out.symm, Below.refl _ _⟩
  · have hn := hmn.2
    have HM := Lib.hid hmn.1
    have h2 : ((m.size : Int) != n) = false := by simp [hn]
    rw [decide_eq_true hmn.1] at hm
    clear hmn
    have HN := Lib.hid hn
    go_enter Tryz.func81, Tryz.ntmps81
    go_wp2_with (go_at_call 70; refine (Most_any _ _).mono ?_; rintro _ _ ⟨rfl, rfl⟩)
    go_loopw [19] (fun i wr => ∃ k : Nat, i = .int .i64 k ∧ k ≤ m.size ∧ Hid (∀ j, j < k → marksE m[j]!.z n = 0) ∧ Hid (Below w.heap.size w wr)) (fun i _ => m.size - (intOf i).toNat)
    case atStart => exact ⟨0, rfl, Nat.zero_le _, Lib.hid (fun j hj => absurd hj (by omega)), Lib.hid (Below.refl _ _)⟩
    case round =>
      obtain ⟨k, rfl, hk, hall, HB⟩ := hrel
      by_cases hlt : k < m.size
      · have kz : (k : Int) < (m.size : Int) := by omega
        have kn : (k : Int) < n := by omega
        obtain ⟨b, off, rfl, hbl, f⟩ := (HR.out.below HB.out).at_ (i := k) (by omega)
        have e0 := f 0 (by omega)
        have HC := Lib.hid (fun W hb => HP.out k hlt W hb)
        have HNO := Lib.hid (fun e : marksE m[k]!.z n ≠ 0 => rowsE_no (n := n) k hlt e)
        have hq2 := marksE_two m[k]!.z n
        obtain ⟨x, hx⟩ : ∃ x, m[k]! = x := ⟨_, rfl⟩
        obtain ⟨q, hq⟩ : ∃ q, marksE m[k]!.z n = q := ⟨_, rfl⟩
        rw [hq] at HC HNO hq2
        rw [hx] at HC e0
        have HQ := Lib.hid hq
        clear f hx hq
        simp only [Nat.add_zero, Nat.mul_one, encW, RW.v, List.getElem!_cons_zero] at e0
        rcases hq2 with rfl | rfl
        all_goals
          go_wp2_with fail
          refine (HC.out _ HB.out).mono ?_
          rintro e w' ⟨rfl, hbW⟩
          have HW := Lib.hid (belStep HB.out hbW)
          clear hbW
          go_wp2
          first
            | (go_roundw
               case rel =>
                 refine ⟨k + 1, by go_num, by omega, Lib.hid (fun j hj => ?_), HW⟩
                 rcases Nat.lt_or_ge j k with h | h
                 · exact hall.out j h
                 · obtain rfl : j = k := by omega
                   exact HQ.out
               case measure => simp [intOf]; omega)
            | (go_ret
               exact ⟨ret_int (HNO.out (by decide)).symm, HW.out⟩)
      · have hlt' : decide ((k : Int) < (m.size : Int)) = false := by simp; omega
        have HF : Hid (rowsE m n = 0) := rowsE_yes HM.out HN.out fun i hi => hall.out i (by omega)
        go_wp2
        go_ret
        exact ⟨ret_int HF.out.symm, HB.out⟩
set_option maxHeartbeats 8000000 in
theorem rSw_any (A : Option Addr) (c : Nat) (m : Array (RW Int)) (n : Int) (w : World) (h : RdK encW 1 w.heap.size w A m) (hh : ∀ i, i < m.size → RdJ w m[i]!) (hs : m.size ≤ 1000000) (hz : ∀ i, i < m.size → m[i]!.z.size ≤ 1000000) :
    Calls Tryz.prog 34 #[.slice A m.size c, .int .i64 n] w fun e w' => e = .returned (.int .i64 (rowsE m n)) ∧ Below w.heap.size w w' := by
  have HR := Lib.hid h
  have HP : Hid (∀ i, i < m.size → ∀ W, Below w.heap.size w W → Calls Tryz.prog 35 #[.slice m[i]!.A m[i]!.z.size m[i]!.c, .int .i64 n] W fun e w' => e = .returned (.int .i64 (marksE m[i]!.z n)) ∧ Below W.heap.size W w') := fun i hi W hb => (rCheck_any_S m[i]!.A m[i]!.c m[i]!.z n _ W ((hh i hi).below hb).rd (by have := hz i hi; omega)).mono fun e w' ⟨he, hw⟩ => ⟨he, hw ▸ Below.refl _ _⟩
  clear h hh hz
  by_cases hmn : (3 ≤ n ∧ n ≤ 9) ∧ (m.size : Int) = n
  rotate_left
  · have HE := Lib.hid (rowsE_out hmn)
    go_enter Tryz.func34, Tryz.ntmps34
    by_cases g1 : n < 3
    · have g1' : decide (n < 3) = true := decide_eq_true g1
      clear hmn g1
      go_wp2
      go_ret
      exact ⟨ret_int HE.out.symm, Below.refl _ _⟩
    · have g1' : decide (n < 3) = false := decide_eq_false g1
      by_cases g2 : 9 < n
      · have g2' : decide (9 < n) = true := decide_eq_true g2
        clear hmn g1 g2
        go_wp2
        go_ret
        exact ⟨ret_int HE.out.symm, Below.refl _ _⟩
      · have g2' : decide (9 < n) = false := decide_eq_false g2
        have g3 : ((m.size : Int) != n) = true := by simp; exact fun e => hmn ⟨by omega, e⟩
        clear hmn g1 g2
        go_wp2
        go_ret
        exact ⟨ret_int HE.out.symm, Below.refl _ _⟩
  · have hn := hmn.2
    have HM := Lib.hid hmn.1
    have h1 : decide (n < 3) = false := by simp; omega
    have h3 : decide (9 < n) = false := by simp; omega
    have h2 : ((m.size : Int) != n) = false := by simp [hn]
    clear hmn
    have HN := Lib.hid hn
    go_enter Tryz.func34, Tryz.ntmps34
    go_wp2
    go_loopw [5] (fun i wr => ∃ k : Nat, i = .int .i64 k ∧ k ≤ m.size ∧ Hid (∀ j, j < k → marksE m[j]!.z n = 0) ∧ Hid (Below w.heap.size w wr)) (fun i _ => m.size - (intOf i).toNat)
    case atStart => exact ⟨0, rfl, Nat.zero_le _, Lib.hid (fun j hj => absurd hj (by omega)), Lib.hid (Below.refl _ _)⟩
    case round =>
      obtain ⟨k, rfl, hk, hall, HB⟩ := hrel
      by_cases hlt : k < m.size
      · have kz : (k : Int) < (m.size : Int) := by omega
        have kn : (k : Int) < n := by omega
        obtain ⟨b, off, rfl, hbl, f⟩ := (HR.out.below HB.out).at_ (i := k) (by omega)
        have e0 := f 0 (by omega)
        have HC := Lib.hid (fun W hb => HP.out k hlt W hb)
        have HNO := Lib.hid (fun e : marksE m[k]!.z n ≠ 0 => rowsE_no (n := n) k hlt e)
        have hq2 := marksE_two m[k]!.z n
        obtain ⟨x, hx⟩ : ∃ x, m[k]! = x := ⟨_, rfl⟩
        obtain ⟨q, hq⟩ : ∃ q, marksE m[k]!.z n = q := ⟨_, rfl⟩
        rw [hq] at HC HNO hq2
        rw [hx] at HC e0
        have HQ := Lib.hid hq
        clear f hx hq
        simp only [Nat.add_zero, Nat.mul_one, encW, RW.v, List.getElem!_cons_zero] at e0
        rcases hq2 with rfl | rfl
        all_goals
          go_wp2_with fail
          refine (HC.out _ HB.out).mono ?_
          rintro e w' ⟨rfl, hbW⟩
          have HW := Lib.hid (belStep HB.out hbW)
          clear hbW
          go_wp2
          first
            | (go_roundw
               case rel =>
                 refine ⟨k + 1, by go_num, by omega, Lib.hid (fun j hj => ?_), HW⟩
                 rcases Nat.lt_or_ge j k with h | h
                 · exact hall.out j h
                 · obtain rfl : j = k := by omega
                   exact HQ.out
               case measure => simp [intOf]; omega)
            | (go_ret
               exact ⟨ret_int (HNO.out (by decide)).symm, HW.out⟩)
      · have hlt' : decide ((k : Int) < n) = false := by simp; omega
        have HF : Hid (rowsE m n = 0) := rowsE_yes HM.out HN.out fun i hi => hall.out i (by omega)
        go_wp2
        go_ret
        exact ⟨ret_int HF.out.symm, HB.out⟩
set_option maxHeartbeats 4000000 in
theorem few18_any (A : Option Addr) (c : Nat) (m : Array (RW Int)) (w : World) (h : RdK encW 1 w.heap.size w A m) :
    Calls Tryz.prog 20 #[.slice A m.size c] w fun e w' => e = .returned (.bool (fewM m)) ∧ Below w.heap.size w w' := by
  have HR := Lib.hid h
  clear h
  by_cases hs : m.size ≤ 20
  · have hs' : decide ((20 : Int) < (m.size : Int)) = false := decide_eq_false (by omega)
    go_enter Tryz.func20, Tryz.ntmps20
    go_wp2
    go_loopw [3] (fun i wr => ∃ k : Nat, i = .int .i64 k ∧ k ≤ m.size ∧ Hid (∀ j, j < k → m[j]!.z.size ≤ 20) ∧ Hid (wr = w)) (fun i _ => m.size - (intOf i).toNat)
    case atStart => exact ⟨0, rfl, Nat.zero_le _, Lib.hid (fun j hj => absurd hj (by omega)), Lib.hid rfl⟩
    case round =>
      obtain ⟨k, rfl, hk, hall, hwr⟩ := hrel
      obtain rfl := hwr.out
      by_cases hlt : k < m.size
      · have kz : (k : Int) < (m.size : Int) := by omega
        obtain ⟨b, off, rfl, hbl, f⟩ := HR.out.at_ (i := k) (by omega)
        have e0 := f 0 (by omega)
        obtain ⟨x, hx⟩ : ∃ x, m[k]! = x := ⟨_, rfl⟩
        rw [hx] at e0
        have HX := Lib.hid hx
        clear f hx
        simp only [Nat.add_zero, Nat.mul_one, encW, RW.v, List.getElem!_cons_zero] at e0
        by_cases hz : x.z.size ≤ 20
        · have hz' : decide ((20 : Int) < (x.z.size : Int)) = false := decide_eq_false (by omega)
          have HZ := Lib.hid hz
          clear hz
          go_wp2
          go_roundw
          case rel =>
            refine ⟨k + 1, by go_num, by omega, Lib.hid (fun j hj => ?_), by first | exact Lib.hid trivial | exact Lib.hid rfl⟩
            rcases Nat.lt_or_ge j k with h | h
            · exact hall.out j h
            · obtain rfl : j = k := by omega
              rw [HX.out]; exact HZ.out
          case measure => simp [intOf]; omega
        · have hz' : decide ((20 : Int) < (x.z.size : Int)) = true := decide_eq_true (by omega)
          have HF : Hid (fewM m = false) := by
            show _ = _
            rw [Bool.eq_false_iff]
            intro hc
            have := (fewM_iff.1 hc).2 k hlt
            rw [HX.out] at this
            exact hz this
          clear hz
          go_wp2
          go_ret
          exact ⟨ret_bool HF.out.symm, Below.refl _ _⟩
      · have hlt' : decide ((k : Int) < (m.size : Int)) = false := by simp; omega
        have HF : Hid (fewM m = true) := fewM_iff.2 ⟨hs, fun i hi => hall.out i (by omega)⟩
        go_wp2
        go_ret
        exact ⟨ret_bool HF.out.symm, Below.refl _ _⟩
  · have hs' : decide ((20 : Int) < (m.size : Int)) = true := decide_eq_true (by omega)
    have HF : Hid (fewM m = false) := by
      show _ = _
      rw [Bool.eq_false_iff]
      intro hc
      exact hs (fewM_iff.1 hc).1
    clear hs
    go_enter Tryz.func20, Tryz.ntmps20
    go_wp2
    go_ret
    exact ⟨ret_bool HF.out.symm, Below.refl _ _⟩
end Go.Proofs.YtnmojicfmcbgmaaGreat
namespace Go.Proofs.YtnmojicfmcbgmaaGreat
open Go.RowKit Go.Sort Go.Lib
set_option maxRecDepth 100000
set_option maxHeartbeats 4000000 in
theorem enIdx (p : Nat → Bool) (g : Nat) (lb : Array Value) (eg : ∀ args w, (callFunc g args).run Tryz.prog w = .ok (.enter g args) w) (A : Option Addr) (c : Nat) (d : Array (EN)) (w : World) (h : RdK encE 10 w.heap.size w A d) (hs : d.size ≤ 1000000)
    (hp : ∀ i, i < d.size → ∀ W, Below w.heap.size w W → Calls Tryz.prog g (#[.agg (encE d[i]!).toArray] ++ lb) W fun e w' => e = .returned (.bool (p i)) ∧ Below W.heap.size W w') :
    Calls Tryz.prog 131 #[.slice A d.size c, .func (.func g) #[] lb] w fun e w' => IdxQ p d.size e ∧ Below w.heap.size w w' := by
  have HR := Lib.hid h
  have HP := Lib.hid hp
  clear h hp
  go_enter Tryz.func131, Tryz.ntmps131
  go_wp2
  go_loopw [8] (fun i wr => ∃ k : Nat, i = .int .i64 k ∧ k ≤ d.size ∧ Hid (∀ j, j < k → p j = false) ∧ Hid (Below w.heap.size w wr)) (fun i _ => d.size - (intOf i).toNat)
  case atStart => exact ⟨0, rfl, Nat.zero_le _, Lib.hid (fun j hj => absurd hj (by omega)), Lib.hid (Below.refl _ _)⟩
  case round =>
    obtain ⟨k, rfl, hk, hall, HB⟩ := hrel
    by_cases hlt : k < d.size
    · have kz : (k : Int) < (d.size : Int) := by omega
      obtain ⟨b, off, rfl, hbl, f⟩ := (HR.out.below HB.out).at_ (i := k) (by omega)
      have e0 := f 0 (by omega)
      have e1 := f 1 (by omega)
      have e2 := f 2 (by omega)
      have e3 := f 3 (by omega)
      have e4 := f 4 (by omega)
      have e5 := f 5 (by omega)
      have e6 := f 6 (by omega)
      have e7 := f 7 (by omega)
      have e8 := f 8 (by omega)
      have e9 := f 9 (by omega)
      have HC := Lib.hid (fun W hb => HP.out k hlt W hb)
      obtain ⟨x, hx⟩ : ∃ x, d[k]! = x := ⟨_, rfl⟩
      obtain ⟨q, hq⟩ : ∃ q, p k = q := ⟨_, rfl⟩
      rw [hx, hq] at HC
      rw [hx] at e0 e1 e2 e3 e4 e5 e6 e7 e8 e9
      have HQ := Lib.hid hq
      clear f hx hq
      simp only [Nat.add_zero, encE, List.getElem!_cons_zero, List.getElem!_cons_succ] at e0 e1 e2 e3 e4 e5 e6 e7 e8 e9 HC
      cases q
      · go_wp2_with fail
        refine (HC.out _ HB.out).mono ?_
        rintro e w' ⟨rfl, hb'⟩
        have HB2 := Lib.hid (belStep HB.out hb')
        clear hb'
        go_wp2
        go_roundw
        case rel =>
          refine ⟨k + 1, by go_num, by omega, Lib.hid (fun j hj => ?_), HB2⟩
          rcases Nat.lt_or_ge j k with h | h
          · exact hall.out j h
          · obtain rfl : j = k := by omega
            exact HQ.out
        case measure => simp [intOf]; omega
      · go_wp2_with fail
        refine (HC.out _ HB.out).mono ?_
        rintro e w' ⟨rfl, hb'⟩
        have HB2 := Lib.hid (belStep HB.out hb')
        clear hb'
        go_wp2
        go_ret
        exact ⟨⟨k, rfl, Or.inl ⟨by omega, anyN_yes k (by omega) HQ.out⟩⟩, HB2.out⟩
    · have hlt' : decide ((k : Int) < (d.size : Int)) = false := by simp; omega
      go_wp2
      go_ret
      exact ⟨⟨-1, rfl, Or.inr ⟨rfl, anyN_no fun j hj => hall.out j (by omega)⟩⟩, HB.out⟩
set_option maxHeartbeats 2000000 in
theorem enCont (p : Nat → Bool) (g : Nat) (lb : Array Value) (eg : ∀ args w, (callFunc g args).run Tryz.prog w = .ok (.enter g args) w) (A : Option Addr) (c : Nat) (d : Array (EN)) (w : World) (h : RdK encE 10 w.heap.size w A d) (hs : d.size ≤ 1000000)
    (hp : ∀ i, i < d.size → ∀ W, Below w.heap.size w W → Calls Tryz.prog g (#[.agg (encE d[i]!).toArray] ++ lb) W fun e w' => e = .returned (.bool (p i)) ∧ Below W.heap.size W w') :
    Calls Tryz.prog 77 #[.slice A d.size c, .func (.func g) #[] lb] w fun e w' => e = .returned (.bool (anyN d.size p)) ∧ Below w.heap.size w w' := by
  have HI := Lib.hid (enIdx p g lb eg A c d w h hs hp)
  clear h hp
  go_enter Tryz.func77, Tryz.ntmps77
  go_wp2_with fail
  refine HI.out.mono ?_
  rintro e w' ⟨⟨r, rfl, hr⟩, hb⟩
  have HB := Lib.hid hb
  clear hb
  rcases hr with ⟨h1, h2⟩ | ⟨h1, h2⟩
  · have h1' : decide (0 ≤ r) = true := decide_eq_true h1
    go_wp2
    go_ret
    exact ⟨ret_bool h2.symm, HB.out⟩
  · subst h1
    go_wp2
    go_ret
    exact ⟨ret_bool h2.symm, HB.out⟩
end Go.Proofs.YtnmojicfmcbgmaaGreat
namespace Go.Proofs.YtnmojicfmcbgmaaGreat
open Go.RowKit Go.Sort Go.Lib
set_option maxRecDepth 100000
theorem sli_info : (Tryz.prog.info? 26).map (fun i => (i.zero, i.size, i.bytes)) = some (some (.slice none 0 0), 1, 24) := by kernel_rfl
/-- A row of one's own, as it is read. -/
theorem rdW_of_owns {α : Type} [Inhabited α] {en : α → List Value} {k : Nat} {w : World} {base : Nat} {e : TypeId} {v : Value} {d : Array α} (h : w.ownsRow base e k v d.size (flatK en k d).toList) : ∃ x : RW α, v = x.v ∧ x.z = d ∧ RdW en k w x := by
  have h' := h
  obtain ⟨A, c, hv, hr, hn⟩ := rdK_of_owns h
  obtain ⟨_, ⟨h1, h0⟩ | ⟨g, cap, cur, h1, _, _, hnc, _⟩⟩ := h'
  · rw [hv] at h1
    injection h1 with a b c'
    exact ⟨⟨A, c, d⟩, hv, rfl, hr, by show d.size ≤ c; omega, hn⟩
  · rw [hv] at h1
    injection h1 with a b c'
    exact ⟨⟨A, c, d⟩, hv, rfl, hr, by show d.size ≤ c; omega, hn⟩
theorem flat_W {α : Type} [Inhabited α] (z : Array (RW α)) : (flatK encW 1 z).toList = z.toList.map RW.v := by
  apply List.ext_getElem?
  intro t
  rw [Array.getElem?_toList]
  by_cases h : t < z.size
  · have h1 : t < (flatK encW 1 z).size := by rw [size_flatK]; omega
    have h2 := get_flatK encW 1 z t (by omega)
    rw [getElem!_pos _ t h1, Nat.mod_one, Nat.div_one, getElem!_pos z t h] at h2
    rw [Array.getElem?_eq_getElem h1, h2, List.getElem?_map, Array.getElem?_toList, Array.getElem?_eq_getElem h]
    rfl
  · rw [Array.getElem?_eq_none (by rw [size_flatK]; omega), List.getElem?_eq_none (by simp; omega)]
theorem rdJ_of_owns {w : World} {base : Nat} {e : TypeId} {v : Value} {l : List Int} (h : w.ownsRow base e 1 v l.length (l.map (Value.int .i64))) : ∃ x : RW Int, v = x.v ∧ x.z = l.toArray ∧ RdJ w x := by
  have h' := h
  obtain ⟨A, cc, hv, hr⟩ := rdI_of_owns h
  have hv0 : v = (⟨A, cc, l.toArray⟩ : RW Int).v := by rw [hv]; simp [RW.v]
  obtain ⟨_, ⟨hv2, h0⟩ | ⟨g, cap, cur, hv2, _, _, hnc, _⟩⟩ := h'
  · rw [hv] at hv2
    injection hv2 with a b e3
    exact ⟨⟨A, cc, l.toArray⟩, hv0, rfl, ⟨hr, by show l.toArray.size ≤ cc; simp; omega, fun _ => e3⟩⟩
  · rw [hv] at hv2
    injection hv2 with a b e3
    exact ⟨⟨A, cc, l.toArray⟩, hv0, rfl, ⟨hr, by show l.toArray.size ≤ cc; simp; omega, fun h => by rw [a] at h; cases h⟩⟩
/-- A row of rows, of one's own. -/
theorem rdWW_of_owns {α : Type} [Inhabited α] {w : World} {base : Nat} {e : TypeId} {v : Value} {z : Array (RW α)} (h : w.ownsRow base e 1 v z.size (z.toList.map RW.v)) : ∃ x : RW (RW α), v = x.v ∧ x.z = z ∧ RdW encW 1 w x :=
  rdW_of_owns (by rw [flat_W]; exact h)
theorem own_snoc' {w : World} {base : Nat} {e : TypeId} {v : Value} {l : List Value} {x : Value} (h : w.ownsRow base e 1 v (l.length + 1) (l ++ [x])) : w.ownsRow base e 1 v (l ++ [x]).length (l ++ [x]) := by
  simpa using h
theorem own_monoB {w : World} {b b' : Nat} {e : TypeId} {s n : Nat} {v : Value} {xs : List Value} (h : w.ownsRow b e s v n xs) (hb : b' ≤ b) : w.ownsRow b' e s v n xs := by
  obtain ⟨h0, h1 | ⟨g, cap, cur, hv, hB, hh, hr⟩⟩ := h
  · exact ⟨h0, Or.inl h1⟩
  · exact ⟨h0, Or.inr ⟨g, cap, cur, hv, Nat.le_trans hb hB, hh, hr⟩⟩
theorem own_belK {w W : World} {B s n : Nat} {e : TypeId} {v : Value} {xs : List Value} (h : w.ownsRow B e s v n xs) (hb : Below w.heap.size w W) : W.ownsRow B e s v n xs := by
  obtain ⟨h0, h1 | ⟨g, cap, cur, hv, hB, hh, hr⟩⟩ := h
  · exact ⟨h0, Or.inl h1⟩
  · exact ⟨h0, Or.inr ⟨g, cap, cur, hv, hB, (hb.block g (Array.getElem?_eq_some_iff.1 hh).1).trans hh, hr⟩⟩
/-- Rows of two kinds lie in two blocks: what is done to the one leaves the other. -/
theorem own_kinds {w w' : World} {B B2 s s2 n n2 : Nat} {e e2 : TypeId} {v v2 : Value} {xs xs2 : List Value} (h : w.ownsRow B e s v n xs) (h2 : w.ownsRow B2 e2 s2 v2 n2 xs2) (hne : e ≠ e2) (hg : w.grownBy w' v.ownBlock) : w'.ownsRow B2 e2 s2 v2 n2 xs2 := by
  refine h2.kept hg ?_
  obtain ⟨_, ⟨rfl, _⟩ | ⟨g2, _, _, rfl, _, hh2, _⟩⟩ := h2
  · exact Or.inl rfl
  · right
    intro hc
    obtain ⟨_, ⟨rfl, _⟩ | ⟨g, _, _, rfl, _, hh, _⟩⟩ := h
    · cases hc
    · have hc' : g2 = g := by simpa [Value.ownBlock] using hc
      subst hc'
      rw [hh] at hh2
      injection hh2 with a
      injection a with b c
      exact hne c
/-- The rows of a table of numbers that lie one behind the other. -/
def cutR (D : Array Int) (n i : Nat) : Array Int := ((List.range n).map fun j => D[i * n + j]!).toArray
def cutZ (b o n : Nat) (D : Array Int) : Array (RW Int) := ((List.range n).map fun i => (⟨some ⟨b, o + i * n, none⟩, n, cutR D n i⟩ : RW Int)).toArray
theorem cutR_size (D : Array Int) (n i : Nat) : (cutR D n i).size = n := by simp [cutR]
theorem cutR_at (D : Array Int) (n i : Nat) {j : Nat} (hj : j < n) : (cutR D n i)[j]! = D[i * n + j]! := by
  rw [getElem!_pos _ j (by rw [cutR_size]; exact hj)]
  simp [cutR]
theorem cutZ_size (b o n : Nat) (D : Array Int) : (cutZ b o n D).size = n := by simp [cutZ]
theorem cutZ_at (b o n : Nat) (D : Array Int) {i : Nat} (hi : i < n) : (cutZ b o n D)[i]! = ⟨some ⟨b, o + i * n, none⟩, n, cutR D n i⟩ := by
  rw [getElem!_pos _ i (by rw [cutZ_size]; exact hi)]
  simp [cutZ]
theorem cutZ_v (b o n : Nat) (D : Array Int) : (cutZ b o n D).toList.map RW.v = (List.range n).map fun i => Value.slice (some ⟨b, o + i * n, none⟩) n n := by
  unfold cutZ
  simp only [List.map_map]
  refine List.map_congr_left fun i _ => ?_
  show Value.slice _ (cutR D n i).size n = _
  rw [cutR_size]
/-- A table of numbers is read. -/
def RdMM (w : World) (x : RW (RW Int)) : Prop := RdW encW 1 w x ∧ ∀ i, i < x.z.size → RdJ w x.z[i]!
theorem RdMM.below {w w' : World} {x : RW (RW Int)} (h : RdMM w x) (hb : Below w.heap.size w w') : RdMM w' x := ⟨h.1.below hb, fun i hi => (h.2 i hi).below hb⟩
theorem cutZ_rd {b o n : Nat} {D : Array Int} {W : World} (hb : b < W.heap.size) (h : ∀ t, t < n * n → W.cell? ⟨b, o + t, none⟩ = some (.int .i64 D[t]!)) : ∀ i, i < n → RdJ W (cutZ b o n D)[i]! := by
  intro i hi
  rw [cutZ_at _ _ _ _ hi]
  refine ⟨fun _ => ⟨b, o + i * n, rfl, hb, fun j hj => ?_⟩, by show (cutR D n i).size ≤ n; rw [cutR_size]; exact Nat.le_refl _, fun h => by cases h⟩
  have hj' : j < n := by rwa [show (RW.mk (some (⟨b, o + i * n, none⟩ : Addr)) n (cutR D n i)).z = cutR D n i from rfl, cutR_size] at hj
  have hle : (i + 1) * n ≤ n * n := Nat.mul_le_mul_right n hi
  rw [Nat.succ_mul] at hle
  rw [Nat.add_assoc, h _ (by omega)]
  show _ = some (Value.int .i64 (cutR D n i)[j]!)
  rw [cutR_at _ _ _ hj']
/-- A new table: k rows of k zeros. -/
def NewM (k : Nat) (z : Array (RW Int)) : Prop := z.size = k ∧ ∀ i, i < k → z[i]!.z = (List.replicate k 0).toArray
theorem cutZ_new (b o n : Nat) (D : Array Int) (h : ∀ t, t < n * n → D[t]! = 0) : NewM n (cutZ b o n D) := by
  refine ⟨cutZ_size _ _ _ _, fun i hi => ?_⟩
  rw [cutZ_at _ _ _ _ hi]
  show cutR D n i = _
  have hle : (i + 1) * n ≤ n * n := Nat.mul_le_mul_right n hi
  rw [Nat.succ_mul] at hle
  unfold cutR
  congr 1
  apply List.ext_getElem (by simp)
  intro j h1 h2
  simp
  have hj : j < n := by simpa using h1
  exact h _ (by omega)
set_option maxHeartbeats 4000000 in
theorem cut_any (b o c n : Nat) (w : World) (hn : n ≤ 100) (hc : n * n ≤ c) (hcm : c ≤ maxLen) :
    Calls Tryz.prog 71 #[.slice (some ⟨b, o, none⟩) (n * n) c, .int .i64 n] w fun e w' => ∃ v, e = .returned v ∧ w'.ownsRow w.heap.size 26 1 v n ((List.range n).map fun i => .slice (some ⟨b, o + i * n, none⟩) n n) ∧ Below w.heap.size w w' := by
  obtain ⟨i0, hi0, hz0, hz1, hz2⟩ := info_parts sli_info
  obtain ⟨N, hN⟩ : ∃ N, n * n = N := ⟨_, rfl⟩
  have HN := Lib.hid hN
  rw [hN] at hc ⊢
  clear hN
  go_enter Tryz.func71, Tryz.ntmps71
  go_wp2
  go_loopw [5, 8] (fun v i wr => ∃ (k : Nat) (L : List Value), i = .int .i64 k ∧ k ≤ n ∧ L.length = k ∧ Hid (L = (List.range k).map fun i => Value.slice (some ⟨b, o + i * n, none⟩) n n) ∧ wr.ownsRow w.heap.size 26 1 v L.length L ∧ Hid (Below w.heap.size w wr)) (fun _ i _ => n - (intOf i).toNat)
  case atStart => exact ⟨0, [], rfl, Nat.zero_le _, rfl, rfl, World.ownsRow_nil _ _ _ _, Below.refl _ _⟩
  case round =>
    obtain ⟨k, L, rfl, hk, hl, HL, hown, HB⟩ := hrel
    by_cases hlt : k < n
    · have kz : (k : Int) < (n : Int) := by omega
      obtain ⟨p, hp⟩ : ∃ p, k * n = p := ⟨_, rfl⟩
      have hq : (k + 1) * n = p + n := by rw [Nat.succ_mul, hp]
      have hle : p + n ≤ N := by rw [← hq, ← HN.out]; exact Nat.mul_le_mul_right n hlt
      have m1 : (k : Int) * (n : Int) = (p : Int) := by rw [← hp]; simp
      have m2 : ((k : Int) + 1) * (n : Int) = ((p + n : Nat) : Int) := by rw [Int.add_mul, m1]; omega
      have HS : Hid (((List.range (k + 1)).map fun i => Value.slice (some ⟨b, o + i * n, none⟩) n n) = L ++ [.slice (some ⟨b, o + p, none⟩) n n]) := by
        show _ = _
        rw [List.range_succ, List.map_append, ← HL.out, ← hp]; rfl
      have hHB := HB.out.size
      have hcm' : c ≤ 9223372036854775807 := hcm
      have t1 : ((p : Int) + (n : Int)).toNat = p + n := by omega
      have t2 : p + n - p = n := by omega
      have t3 : ¬ (p + n = p) := by omega
      have t4 : (p : Int) + (n : Int) ≤ (c : Int) := by omega
      clear hp hq
      go_wp2_with (at_builtin; refine wpList_append_own _ rfl _ _ 25 rfl w.heap.size 26 i0 (.slice none 0 0) 1 24 Tryz.underlying25 hi0 hz0 hz1 hz2 rfl (by decide) _ _ _ rfl (World.ownsRow.alloc hown _) ⟨wr.heap.size, 0, none⟩ 1 1 [.slice (some ⟨b, o + p, none⟩) n n] rfl rfl (app_cell _ _ _) (by simp [Value.oneCell']) (by unfold maxLen; omega) (by omega) (by simp; omega) ?_; intro v' w3 hown3 hgrow _)
      go_roundw
      case rel => exact ⟨k + 1, L ++ [.slice (some ⟨b, o + p, none⟩) n n], by go_num, by omega, by simp [hl], Lib.hid HS.out.symm, own_snoc' hown3, Lib.hid (app_below HB.out hown hgrow)⟩
      case measure => simp [intOf]; omega
    · have hlt' : decide ((k : Int) < (n : Int)) = false := decide_eq_false (by omega)
      obtain rfl : k = n := by omega
      go_wp2
      go_ret
      exact ⟨_, rfl, by rw [← HL.out, ← hl]; exact hown, HB.out⟩
theorem rdMM_none (w : World) : RdMM w ⟨none, 0, #[]⟩ := ⟨⟨fun h => absurd h (by decide), Nat.le_refl _, fun _ => rfl⟩, fun i hi => absurd hi (Nat.not_lt_zero i)⟩
theorem cut_made {b o n B : Nat} {W : World} {v : Value} (D : Array Int) (hown : W.ownsRow B 26 1 v n ((List.range n).map fun i => Value.slice (some ⟨b, o + i * n, none⟩) n n)) (hb : b < W.heap.size) (hc : ∀ t, t < n * n → W.cell? ⟨b, o + t, none⟩ = some (.int .i64 D[t]!)) : ∃ x : RW (RW Int), v = x.v ∧ x.z = cutZ b o n D ∧ RdMM W x := by
  rw [← cutZ_v b o n D] at hown
  obtain ⟨x, e, hz, hr⟩ := rdWW_of_owns (z := cutZ b o n D) (by rw [cutZ_size]; exact hown)
  refine ⟨x, e, hz, hr, fun i hi => ?_⟩
  rw [hz] at hi ⊢
  rw [cutZ_size] at hi
  exact cutZ_rd hb hc i hi
/-- A table that lies from block B on: it is read wherever these blocks are as they are. -/
def OwnMM (B : Nat) (w : World) (x : RW (RW Int)) : Prop := ∀ W, (∀ j, B ≤ j → j < w.heap.size → W.heap[j]? = w.heap[j]?) → w.heap.size ≤ W.heap.size → RdMM W x
theorem own_same {w W : World} {B B0 s n : Nat} {e : TypeId} {v : Value} {xs : List Value} (h : w.ownsRow B e s v n xs) (hB : B0 ≤ B) (ho : ∀ j, B0 ≤ j → j < w.heap.size → W.heap[j]? = w.heap[j]?) : W.ownsRow B e s v n xs := by
  obtain ⟨h0, h1 | ⟨g, cap, cur, hv, hg, hh, hr⟩⟩ := h
  · exact ⟨h0, Or.inl h1⟩
  · exact ⟨h0, Or.inr ⟨g, cap, cur, hv, hg, (ho g (by omega) (Array.getElem?_eq_some_iff.1 hh).1).trans hh, hr⟩⟩
theorem cut_own {b o n B B0 : Nat} {w : World} {v : Value} (D : Array Int) (hown : w.ownsRow B 26 1 v n ((List.range n).map fun i => Value.slice (some ⟨b, o + i * n, none⟩) n n)) (hB : B0 ≤ B) (hb : b < w.heap.size) (hB2 : B0 ≤ b) (hc : ∀ t, t < n * n → w.cell? ⟨b, o + t, none⟩ = some (.int .i64 D[t]!)) : ∃ x : RW (RW Int), v = x.v ∧ x.z = cutZ b o n D ∧ OwnMM B0 w x := by
  have key : ∀ W : World, (∀ j, B0 ≤ j → j < w.heap.size → W.heap[j]? = w.heap[j]?) → w.heap.size ≤ W.heap.size → ∃ x : RW (RW Int), v = x.v ∧ x.z = cutZ b o n D ∧ RdMM W x := fun W ho hs =>
    cut_made D (own_same hown hB ho) (by omega) (fun t ht => by rw [World.cell?_of_block (w := w) (a := ⟨b, o + t, none⟩) (ho b hB2 hb)]; exact hc t ht)
  obtain ⟨x, e, hz, _⟩ := key w (fun _ _ _ => rfl) (Nat.le_refl _)
  refine ⟨x, e, hz, fun W ho hs => ?_⟩
  obtain ⟨y, e2, hz2, hr⟩ := key W ho hs
  have : x = y := by
    obtain ⟨xA, xc, xz⟩ := x
    obtain ⟨yA, yc, yz⟩ := y
    have hz' : xz = yz := hz.trans hz2.symm
    have e' := e.symm.trans e2
    unfold RW.v at e'
    injection e' with q1 q2 q3
    subst hz' q1 q3
    rfl
  rw [this]
  exact hr
set_option maxHeartbeats 2000000 in
theorem swNew_any (n : Int) (w : World) : Calls Tryz.prog 25 #[.int .i64 n] w fun e w' => (∃ x : RW (RW Int), e = .returned (.tuple #[x.v, .int .i64 (if mostN n = 0 then 2 else 0)]) ∧ NewM (if mostN n = 0 then 0 else n.toNat) x.z ∧ OwnMM w.heap.size w' x) ∧ Below w.heap.size w w' := by
  by_cases h : mostN n = 0
  · rw [if_pos h, if_pos h]
    have b1 : (mostN n == 0) = true := by simp [h]
    clear h
    go_enter Tryz.func25, Tryz.ntmps25
    go_wp2_with (go_at_call 70; refine (Most_any _ _).mono ?_; rintro e w' ⟨rfl, rfl⟩)
    go_ret2
    exact ⟨⟨⟨none, 0, #[]⟩, rfl, ⟨rfl, fun i hi => absurd hi (Nat.not_lt_zero i)⟩, fun W _ _ => rdMM_none W⟩, Below.refl _ _⟩
  · rw [if_neg h, if_neg h]
    have b1 : (mostN n == 0) = false := by simpa using h
    obtain ⟨k, rfl, h3, h9⟩ : ∃ k : Nat, n = (k : Int) ∧ 3 ≤ k ∧ k ≤ 9 := by
      have hb : 3 ≤ n ∧ n ≤ 9 := by
        refine Classical.byContradiction fun hc => h ?_
        unfold mostN
        exact if_pos (by omega)
      exact ⟨n.toNat, by omega, by omega, by omega⟩
    clear h
    have h81 : k * k ≤ 9 * 9 := Nat.mul_le_mul h9 h9
    obtain ⟨N, hN⟩ : ∃ N, k * k = N := ⟨_, rfl⟩
    have m1 : (k : Int) * (k : Int) = (N : Int) := by rw [← hN]; simp
    have hN81 : N ≤ 81 := by omega
    have hmk := fun W => make_ints N (by omega) W
    have HC : Hid (∀ W, Calls Tryz.prog 71 #[.slice (some ⟨w.heap.size, 0, none⟩) N N, .int .i64 k] W fun e w' => ∃ v, e = .returned v ∧ w'.ownsRow W.heap.size 26 1 v k ((List.range k).map fun i => .slice (some ⟨w.heap.size, 0 + i * k, none⟩) k k) ∧ Below W.heap.size W w') := fun W => by
      have := cut_any w.heap.size 0 N k W (by omega) (by omega) (by unfold maxLen; omega)
      rwa [hN] at this
    have HN := Lib.hid hN
    clear h81 hN
    go_enter Tryz.func25, Tryz.ntmps25
    go_wp2_with (first
      | (go_at_call 70; refine (Most_any _ _).mono ?_; rintro e w' ⟨rfl, rfl⟩)
      | (go_at_call 71; refine (HC.out _).mono ?_; rintro _ w1 ⟨v, rfl, hown, hb⟩; have HO := Lib.hid hown; have HB := Lib.hid hb; clear hown hb))
    go_ret2
    have hsz := HB.out.size
    simp at hsz
    obtain ⟨x, e, hz, hr⟩ := cut_own (B0 := w.heap.size) (List.replicate N (0 : Int)).toArray HO.out (by simp) (by omega) (Nat.le_refl _) (fun t ht => by
      rw [HN.out] at ht
      rw [HB.out.cell (p := ⟨w.heap.size, 0 + t, none⟩) (by simp), Nat.zero_add, cell_of_row _ _ t _ _ (0, 0) (heap_alloc_new w _)]
      simp [ht])
    subst e
    refine ⟨⟨x, rfl, ?_, hr⟩, belStep (bel1 w _) HB.out⟩
    rw [hz, Int.toNat_natCast]
    exact cutZ_new _ _ _ _ fun t ht => by
      rw [HN.out] at ht
      simp [ht]
/-- A new table, of rows of the call's own. -/
def zs (k : Nat) : List Int := List.replicate k 0
theorem zs_len (k : Nat) : (zs k).length = k := by simp [zs]
theorem zs_succ (k : Nat) : zs (k + 1) = zs k ++ [0] := List.replicate_succ'
def OwnZ (B : Nat) (W : World) (v : Value) (k : Nat) : Prop := ∃ L : List Value, L.length = k ∧ W.ownsRow B 26 1 v L.length L ∧ ∀ u ∈ L, W.ownsRow B 3 1 u (zs k).length ((zs k).map (Value.int .i64))
theorem OwnZ.same {B : Nat} {w W : World} {v : Value} {k : Nat} (h : OwnZ B w v k) (ho : ∀ j, B ≤ j → j < w.heap.size → W.heap[j]? = w.heap[j]?) : OwnZ B W v k := by
  obtain ⟨L, hl, h1, h2⟩ := h
  exact ⟨L, hl, own_same h1 (Nat.le_refl _) ho, fun u hu => own_same (h2 u hu) (Nat.le_refl _) ho⟩
theorem OwnZ.rd {B : Nat} {W : World} {v : Value} {k : Nat} (h : OwnZ B W v k) : ∃ x : RW (RW Int), v = x.v ∧ NewM k x.z ∧ RdMM W x := by
  obtain ⟨L, hl, ho, hu⟩ := h
  have hx : ∀ i, i < k → ∃ x : RW Int, L[i]? = some x.v ∧ x.z = (List.replicate k 0).toArray ∧ RdJ W x := fun i hi => by
    have hi' : i < L.length := by omega
    obtain ⟨x, e, hz, hr⟩ := rdJ_of_owns (hu L[i] (List.getElem_mem hi'))
    exact ⟨x, by rw [List.getElem?_eq_getElem hi', e], hz, hr⟩
  obtain ⟨f, hf⟩ := Go.Deep.choose_lt hx
  have hsz : ((List.range k).map f).toArray.size = k := by simp
  have hget : ∀ i, i < k → ((List.range k).map f).toArray[i]! = f i := fun i hi => by simp [hi]
  have hL : ((List.range k).map f).toArray.toList.map RW.v = L := by
    apply List.ext_getElem?
    intro i
    rcases Nat.lt_or_ge i k with hi | hi
    · rw [(hf i hi).1]
      simp [hi]
    · rw [List.getElem?_eq_none (by simpa using hi), List.getElem?_eq_none (by omega)]
  obtain ⟨x, e, hz, hr⟩ := rdWW_of_owns (z := ((List.range k).map f).toArray) (by rw [hL, hsz, ← hl]; exact ho)
  refine ⟨x, e, ?_, hr, fun i hi => ?_⟩
  · rw [hz]
    exact ⟨hsz, fun i hi => by rw [hget i hi]; exact (hf i hi).2.1⟩
  · rw [hz] at hi ⊢
    rw [hsz] at hi
    rw [hget i hi]
    exact (hf i hi).2.2
set_option maxHeartbeats 4000000 in
theorem rSwNew_ok (k : Nat) (w : World) (h3 : 3 ≤ k) (h9 : k ≤ 9) : Calls Tryz.prog 27 #[.int .i64 k] w fun e w' => (∃ v, e = .returned (.tuple #[v, .int .i64 0]) ∧ OwnZ w.heap.size w' v k) ∧ Below w.heap.size w w' := by
  obtain ⟨i0, hi0, hz0, hz1, hz2⟩ := info_parts sli_info
  obtain ⟨j0, hj0, hy0, hy1, hy2⟩ := info_parts int_info_R
  have e1 : decide ((k : Int) < 3) = false := decide_eq_false (by omega)
  have e2 : decide (9 < (k : Int)) = false := decide_eq_false (by omega)
  go_enter Tryz.func27, Tryz.ntmps27
  go_wp2
  go_loopw [4, 5] (fun v i wr => ∃ (j : Nat) (L : List Value), i = .int .i64 j ∧ j ≤ k ∧ L.length = j ∧ wr.ownsRow w.heap.size 26 1 v L.length L ∧ Hid (∀ u ∈ L, wr.ownsRow w.heap.size 3 1 u (zs k).length ((zs k).map (Value.int .i64))) ∧ Hid (Below w.heap.size w wr)) (fun _ i _ => k - (intOf i).toNat)
  case atStart => exact ⟨0, [], rfl, Nat.zero_le _, rfl, World.ownsRow_nil _ _ _ _, Lib.hid (fun u hu => by cases hu), Lib.hid (Below.refl _ _)⟩
  case round =>
    obtain ⟨j, L, rfl, hj, hl, hown, HU, HB⟩ := hrel
    by_cases hlt : j < k
    · have kz : (j : Int) < (k : Int) := by omega
      have hBs := HB.out.size
      go_wp2
      obtain ⟨wo, rfl⟩ : ∃ W, W = wr := ⟨_, rfl⟩
      go_loopw [6, 7] (fun r m wi => ∃ p : Nat, m = .int .i64 p ∧ p ≤ k ∧ wi.ownsRow wo.heap.size 3 1 r (zs p).length ((zs p).map (Value.int .i64)) ∧ Hid (Below wo.heap.size wo wi)) (fun _ m _ => k - (intOf m).toNat)
      case atStart => exact ⟨0, rfl, Nat.zero_le _, World.ownsRow_nil _ _ _ _, Lib.hid (Below.refl _ _)⟩
      case round =>
        obtain ⟨p, rfl, hp, hrow, HI⟩ := hrel
        have hIs := HI.out.size
        by_cases hlp : p < k
        · have pz : (p : Int) < (k : Int) := by omega
          have hpl := zs_len p
          go_wp2_with (at_builtin; refine wpList_append_own _ rfl _ _ 26 rfl wo.heap.size 3 j0 (.int .i64 0) 1 8 Tryz.underlying26 hj0 hy0 hy1 hy2 rfl (by decide) _ _ _ rfl (World.ownsRow.alloc hrow _) ⟨wr.heap.size, 0, none⟩ 1 1 [.int .i64 0] rfl rfl (app_cell _ _ _) (by simp [Value.oneCell']) (by unfold maxLen; omega) (by omega) (by simp; omega) ?_; intro v' w3 hown3 hgrow _)
          go_roundw
          case rel => exact ⟨p + 1, by go_num, by omega, by rw [zs_succ]; exact own_snoc hown3, Lib.hid (app_below HI.out hrow hgrow)⟩
          case measure => simp [intOf]; omega
        · have hlt' : decide ((p : Int) < (k : Int)) = false := decide_eq_false (by omega)
          obtain rfl : p = k := by omega
          have hout := own_belK hown HI.out
          have hrow2 := own_monoB hrow hBs
          obtain ⟨UA, un, uc, rfl⟩ : ∃ A n c, u6 = Value.slice A n c := by
            obtain ⟨_, ⟨e, _⟩ | ⟨_, _, _, e, _⟩⟩ := hrow2
            · exact ⟨_, _, _, e⟩
            · exact ⟨_, _, _, e⟩
          have HU2 := Lib.hid (fun u hu => own_belK (HU.out u hu) HI.out)
          have HB2 := Lib.hid (belStep HB.out HI.out)
          clear HU HB HI hown hrow
          go_wp2_with (at_builtin; refine wpList_append_own _ rfl _ _ 25 rfl w.heap.size 26 i0 (.slice none 0 0) 1 24 Tryz.underlying25 hi0 hz0 hz1 hz2 rfl (by decide) _ _ _ rfl (World.ownsRow.alloc hout _) ⟨wr.heap.size, 0, none⟩ 1 1 [.slice UA un uc] rfl rfl (app_cell _ _ _) (by simp [Value.oneCell']) (by unfold maxLen; omega) (by omega) (by simp; omega) ?_; intro v' w3 hown3 hgrow _)
          have hne : (26 : TypeId) ≠ 3 := by decide
          have HK := Lib.hid (own_kinds (hout.alloc _) (hrow2.alloc _) hne hgrow)
          have HV := Lib.hid (fun u hu => own_kinds (hout.alloc _) ((HU2.out u hu).alloc _) hne hgrow)
          go_roundw
          case rel =>
            refine ⟨j + 1, L ++ [_], by go_num, by omega, by simp [hl], own_snoc' hown3, Lib.hid (fun u hu => ?_), Lib.hid (app_below HB2.out hout hgrow)⟩
            rcases List.mem_append.1 hu with h | h
            · exact HV.out u h
            · rw [List.mem_singleton.1 h]; exact HK.out
          case measure => simp [intOf]; omega
    · have hlt' : decide ((j : Int) < (k : Int)) = false := decide_eq_false (by omega)
      obtain rfl : j = k := by omega
      go_wp2
      go_ret2
      exact ⟨⟨_, rfl, L, hl, hown, HU.out⟩, HB.out⟩
end Go.Proofs.YtnmojicfmcbgmaaGreat
namespace Go.Proofs.YtnmojicfmcbgmaaGreat
open Go.RowKit Go.Sort Go.Lib
/-- What is known, read; its rows lie from block B on. -/
def KnF (B : Nat) (w : World) (v : Value) (k : KN) : Prop := ∃ A1 c1 A2 c2, v = .agg #[.int .i64 k.base, .slice A1 k.rs.size c1, .slice A2 k.ats.size c2] ∧ RdK encR 2 w.heap.size w A1 k.rs ∧ RdK encA_I 2 w.heap.size w A2 k.ats ∧ (A1 = none → c1 = 0) ∧ (A2 = none → c2 = 0) ∧ (∀ g off, A1 = some ⟨g, off, none⟩ → B ≤ g) ∧ (∀ g off, A2 = some ⟨g, off, none⟩ → B ≤ g)
theorem keOfF {B : Nat} {w : World} {v : Value} {k : KN} (h : KnF B w v k) : ∃ x : KE, v = .agg (encKE x).toArray ∧ x.kn = k ∧ RdKE w x ∧ (∀ g off, x.r.A = some ⟨g, off, none⟩ → B ≤ g) ∧ (∀ g off, x.a.A = some ⟨g, off, none⟩ → B ≤ g) := by
  obtain ⟨A1, c1, A2, c2, rfl, h1, h2, h3, h4, h5, h6⟩ := h
  exact ⟨⟨k.base, ⟨A1, c1, k.rs⟩, ⟨A2, c2, k.ats⟩⟩, rfl, rfl, ⟨⟨h1, h3⟩, ⟨h2, h4⟩⟩, h5, h6⟩
end Go.Proofs.YtnmojicfmcbgmaaGreat
