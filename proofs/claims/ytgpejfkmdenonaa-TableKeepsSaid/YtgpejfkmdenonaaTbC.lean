/- The document's Find; rows of commands held against each other: rubatoref21.Same, slices.EqualFunc by entry.Same, table.Same. -/
import Derived.Test.YtgpejfkmdenonaaTbB
namespace Go.Proofs.Ytgpejfkmdenonaa
open Go.RowKit Go.Sort Go.Lib
set_option maxRecDepth 100000
set_option maxHeartbeats 16000000 in
theorem rFind_any (A : Option Addr) (c : Nat) (d : Array EN) (n : Int) (w : World) (h : RdT0 w A d) (hs : d.size ≤ 1000000) :
    Calls Try.prog 12 #[.slice A d.size c, .int .i64 n] w fun e w' => FindQ d n e ∧ Below w.heap.size w w' := by
  have HR := Lib.hid h
  clear h
  have HT := Lib.hid (heap_alloc_new w (.cells #[.int .i64 0, .int .i64 0, .int .i64 0, .int .i64 0, .int .i64 0, .int .i64 0, .int .i64 0, .int .i64 0, .string ⟨#[]⟩, .slice none 0 0] 25))
  have HB := Lib.hid (bel1 w (.cells #[.int .i64 0, .int .i64 0, .int .i64 0, .int .i64 0, .int .i64 0, .int .i64 0, .int .i64 0, .int .i64 0, .string ⟨#[]⟩, .slice none 0 0] 25))
  have hw0 : w.heap.size < (w.alloc (.cells #[.int .i64 0, .int .i64 0, .int .i64 0, .int .i64 0, .int .i64 0, .int .i64 0, .int .i64 0, .int .i64 0, .string ⟨#[]⟩, .slice none 0 0] 25)).heap.size := by simp
  go_enter Try.func12, Try.ntmps12
  go_wp2
  generalize w.alloc (.cells #[.int .i64 0, .int .i64 0, .int .i64 0, .int .i64 0, .int .i64 0, .int .i64 0, .int .i64 0, .int .i64 0, .string ⟨#[]⟩, .slice none 0 0] 25) = w1 at HT HB hw0 ⊢
  go_loopw [6] (fun i wr => ∃ k : Nat, i = .int .i64 k ∧ k ≤ d.size ∧ Hid (∀ j, j < k → d[j]!.id ≠ n) ∧ Hid (wr = w1)) (fun i _ => d.size - (intOf i).toNat)
  case atStart => exact ⟨0, rfl, Nat.zero_le _, Lib.hid (fun j hj => absurd hj (by omega)), rfl⟩
  case round =>
    obtain ⟨k, rfl, hk, hall, hwr⟩ := hrel
    obtain rfl := hwr.out
    have z0 := blkC HT.out 0
    have z1 := blkC HT.out 1
    have z2 := blkC HT.out 2
    have z3 := blkC HT.out 3
    have z4 := blkC HT.out 4
    have z5 := blkC HT.out 5
    have z6 := blkC HT.out 6
    have z7 := blkC HT.out 7
    have z8 := blkC HT.out 8
    have z9 := blkC HT.out 9
    have fz := blkF HT.out
    by_cases hlt : k < d.size
    · have kz : (k : Int) < (d.size : Int) := by omega
      obtain ⟨b, off, rfl, hbl0, f0⟩ := HR.out.rd.at_ (i := k) (by omega)
      obtain ⟨_, _, e', hbl, f⟩ := (HR.out.below HB.out).rd.at_ (i := k) (by omega)
      injection e' with e'
      injection e' with eb eo
      subst eb eo
      have e0 := f 0 (by omega)
      have e1 := f 1 (by omega)
      have e2 := f 2 (by omega)
      have e3 := f 3 (by omega)
      have e4 := f 4 (by omega)
      have e5 := f 5 (by omega)
      have e6 := f 6 (by omega)
      have e7 := f 7 (by omega)
      have e8 := f 8 (by omega)
      have e9 := f 9 (by omega)
      have HFR : Hid (d[k]!.id = n → FindR d n (d[k]!, true)) := fun h => Or.inl ⟨k, hlt, rfl, h, hall.out⟩
      have HNX : Hid (¬ d[k]!.id = n → ∀ j, j < k + 1 → d[j]!.id ≠ n) := fun h j hj => by
        rcases Nat.lt_or_ge j k with h' | h'
        · exact hall.out j h'
        · obtain rfl : j = k := by omega
          exact h
      obtain ⟨x, hx⟩ : ∃ x, d[k]! = x := ⟨_, rfl⟩
      rw [hx] at e0 e1 e2 e3 e4 e5 e6 e7 e8 e9 HFR HNX
      clear f f0 hx
      simp only [Nat.add_zero, encE, List.getElem!_cons_zero, List.getElem!_cons_succ] at e0 e1 e2 e3 e4 e5 e6 e7 e8 e9
      by_cases hid : x.id = n
      · have hid' : (x.id == n) = true := by simpa using hid
        have HF := Lib.hid (HFR.out hid)
        clear hid
        go_wp2
        refine bodyPost_ret (v := .tuple #[.agg #[.int .i64 x.id, .int .i64 x.ph, .int .i64 x.qu, .int .i64 x.t, .int .i64 x.bal, .int .i64 x.abal, .int .i64 x.seen, .int .i64 x.age, .string x.pay, .slice x.A x.z.size x.c], .bool true]) (by simp [results, Try.results12, go_sem, z0, z1, z2, z3, z4, z5, z6, z7, z8, z9]) rfl ⟨⟨(x, true), rfl, HF.out⟩, ?_⟩
        exact ((((((((((HB.out.setCell (by first | omega | simp) _).setCell (by first | omega | simp) _).setCell (by first | omega | simp) _).setCell (by first | omega | simp) _).setCell (by first | omega | simp) _).setCell (by first | omega | simp) _).setCell (by first | omega | simp) _).setCell (by first | omega | simp) _).setCell (by first | omega | simp) _).setCell (by first | omega | simp) _)
      · have hid' : (x.id == n) = false := by simpa using hid
        have HF := Lib.hid (HNX.out hid)
        clear hid
        go_wp2
        go_roundw
        case rel => exact ⟨k + 1, by go_num, by omega, HF, by first | exact Lib.hid trivial | exact Lib.hid rfl⟩
        case measure => simp [intOf]; omega
    · have hlt' : decide ((k : Int) < (d.size : Int)) = false := by simp; omega
      have HF : Hid (FindR d n (default, false)) := Or.inr ⟨rfl, fun j hj => hall.out j (by omega)⟩
      go_wp2
      refine bodyPost_ret (v := .tuple #[.agg #[.int .i64 0, .int .i64 0, .int .i64 0, .int .i64 0, .int .i64 0, .int .i64 0, .int .i64 0, .int .i64 0, .string ⟨#[]⟩, .slice none 0 0], .bool false]) (by simp [results, Try.results12, go_sem, z0, z1, z2, z3, z4, z5, z6, z7, z8, z9]) rfl ⟨⟨(default, false), rfl, HF.out⟩, ?_⟩
      exact ((((((((((HB.out.setCell (by first | omega | simp) _).setCell (by first | omega | simp) _).setCell (by first | omega | simp) _).setCell (by first | omega | simp) _).setCell (by first | omega | simp) _).setCell (by first | omega | simp) _).setCell (by first | omega | simp) _).setCell (by first | omega | simp) _).setCell (by first | omega | simp) _).setCell (by first | omega | simp) _)
/-- Two rows of commands are the same. -/
def sameT (d1 d2 : Array EN) : Bool := decide (d1.size = d2.size ∧ ∀ i, i < d1.size → sameP d1[i]! d2[i]!)
theorem sameT_self (d : Array EN) : sameT d d = true := by unfold sameT; rw [decide_eq_true_eq]; exact ⟨rfl, fun i _ => sameP_refl _⟩
theorem sameT_no {d1 d2 : Array EN} (k : Nat) (hk : k < d1.size) (h : decide (sameP d1[k]! d2[k]!) = false) : sameT d1 d2 = false := by
  unfold sameT
  rw [decide_eq_false_iff_not] at h ⊢
  exact fun g => h (g.2 k hk)

set_option maxHeartbeats 16000000 in
theorem rSame21_any (A1 A2 : Option Addr) (c1 c2 : Nat) (d1 d2 : Array EN) (w : World) (h1 : RdT w A1 d1) (h2 : RdT w A2 d2) :
    Calls Try.prog 15 #[.slice A1 d1.size c1, .slice A2 d2.size c2] w fun e w' => e = .returned (.bool (sameT d1 d2)) ∧ Below w.heap.size w w' := by
  have HR1 := Lib.hid h1
  have HR2 := Lib.hid h2
  clear h1 h2
  by_cases hs : d1.size = d2.size
  · have hb : ((d1.size : Int) != (d2.size : Int)) = false := by simp [hs]
    have HS := Lib.hid hs
    have hge : d1.size ≤ d2.size := by omega
    have hsz : d1.size ≤ 100 := HR1.out.sz
    clear hs
    go_enter Try.func15, Try.ntmps15
    go_wp2
    go_loopw [5] (fun i wr => ∃ k : Nat, i = .int .i64 k ∧ k ≤ d1.size ∧ Hid (∀ j, j < k → sameP d1[j]! d2[j]!) ∧ Hid (Below w.heap.size w wr)) (fun i _ => d1.size - (intOf i).toNat)
    case atStart => exact ⟨0, rfl, Nat.zero_le _, Lib.hid (fun j hj => absurd hj (by omega)), Lib.hid (Below.refl _ _)⟩
    case round =>
      obtain ⟨k, rfl, hk, hall, HB⟩ := hrel
      by_cases hlt : k < d1.size
      · have kz : (k : Int) < (d1.size : Int) := by omega
        have kz2 : (k : Int) < (d2.size : Int) := by omega
        obtain ⟨b1, o1, rfl, hl1, f1⟩ := (HR1.out.below HB.out).rd.at_ (i := k) (by omega)
        obtain ⟨b2, o2, rfl, hl2, f2⟩ := (HR2.out.below HB.out).rd.at_ (i := k) (by omega)
        have e0 := f1 0 (by omega)
        have e1 := f1 1 (by omega)
        have e2 := f1 2 (by omega)
        have e3 := f1 3 (by omega)
        have e4 := f1 4 (by omega)
        have e5 := f1 5 (by omega)
        have e6 := f1 6 (by omega)
        have e7 := f1 7 (by omega)
        have e8 := f1 8 (by omega)
        have e9 := f1 9 (by omega)
        have g0 := f2 0 (by omega)
        have g1 := f2 1 (by omega)
        have g2 := f2 2 (by omega)
        have g3 := f2 3 (by omega)
        have g4 := f2 4 (by omega)
        have g5 := f2 5 (by omega)
        have g6 := f2 6 (by omega)
        have g7 := f2 7 (by omega)
        have g8 := f2 8 (by omega)
        have g9 := f2 9 (by omega)
        have HC := Lib.hid (fun W (hb : Below wr.heap.size wr W) => rSame20_any d1[k]! d2[k]! W ((HR1.out.below (belStep HB.out hb)).el k hlt).zero ((HR2.out.below (belStep HB.out hb)).el k (by omega)).zero (by have := (HR1.out.el k hlt).sz; omega) (by have := (HR2.out.el k (by omega)).sz; omega))
        obtain ⟨q, hq⟩ : ∃ q, decide (sameP d1[k]! d2[k]!) = q := ⟨_, rfl⟩
        rw [hq] at HC
        have HQ := Lib.hid hq
        clear hq
        obtain ⟨x, hx⟩ : ∃ x, d1[k]! = x := ⟨_, rfl⟩
        obtain ⟨y, hy⟩ : ∃ y, d2[k]! = y := ⟨_, rfl⟩
        rw [hx] at e0 e1 e2 e3 e4 e5 e6 e7 e8 e9 HC
        rw [hy] at g0 g1 g2 g3 g4 g5 g6 g7 g8 g9 HC
        clear f1 f2 hx hy
        simp only [Nat.add_zero, encE, List.getElem!_cons_zero, List.getElem!_cons_succ] at e0 e1 e2 e3 e4 e5 e6 e7 e8 e9 g0 g1 g2 g3 g4 g5 g6 g7 g8 g9 HC
        have p0 := fun p : ExtW wr => p.cell (a := ⟨b1, o1 + k * 10, none⟩) hl1 e0
        have p1 := fun p : ExtW wr => p.cell (a := ⟨b1, o1 + k * 10 + 1, none⟩) hl1 e1
        have p2 := fun p : ExtW wr => p.cell (a := ⟨b1, o1 + k * 10 + 2, none⟩) hl1 e2
        have p3 := fun p : ExtW wr => p.cell (a := ⟨b1, o1 + k * 10 + 3, none⟩) hl1 e3
        have p4 := fun p : ExtW wr => p.cell (a := ⟨b1, o1 + k * 10 + 4, none⟩) hl1 e4
        have p5 := fun p : ExtW wr => p.cell (a := ⟨b1, o1 + k * 10 + 5, none⟩) hl1 e5
        have p6 := fun p : ExtW wr => p.cell (a := ⟨b1, o1 + k * 10 + 6, none⟩) hl1 e6
        have p7 := fun p : ExtW wr => p.cell (a := ⟨b1, o1 + k * 10 + 7, none⟩) hl1 e7
        have p8 := fun p : ExtW wr => p.cell (a := ⟨b1, o1 + k * 10 + 8, none⟩) hl1 e8
        have p9 := fun p : ExtW wr => p.cell (a := ⟨b1, o1 + k * 10 + 9, none⟩) hl1 e9
        have q0 := fun p : ExtW wr => p.cell (a := ⟨b2, o2 + k * 10, none⟩) hl2 g0
        have q1 := fun p : ExtW wr => p.cell (a := ⟨b2, o2 + k * 10 + 1, none⟩) hl2 g1
        have q2 := fun p : ExtW wr => p.cell (a := ⟨b2, o2 + k * 10 + 2, none⟩) hl2 g2
        have q3 := fun p : ExtW wr => p.cell (a := ⟨b2, o2 + k * 10 + 3, none⟩) hl2 g3
        have q4 := fun p : ExtW wr => p.cell (a := ⟨b2, o2 + k * 10 + 4, none⟩) hl2 g4
        have q5 := fun p : ExtW wr => p.cell (a := ⟨b2, o2 + k * 10 + 5, none⟩) hl2 g5
        have q6 := fun p : ExtW wr => p.cell (a := ⟨b2, o2 + k * 10 + 6, none⟩) hl2 g6
        have q7 := fun p : ExtW wr => p.cell (a := ⟨b2, o2 + k * 10 + 7, none⟩) hl2 g7
        have q8 := fun p : ExtW wr => p.cell (a := ⟨b2, o2 + k * 10 + 8, none⟩) hl2 g8
        have q9 := fun p : ExtW wr => p.cell (a := ⟨b2, o2 + k * 10 + 9, none⟩) hl2 g9
        clear e0 e1 e2 e3 e4 e5 e6 e7 e8 e9 g0 g1 g2 g3 g4 g5 g6 g7 g8 g9
        cases q
        all_goals
          go_wp2_with fail
          refine wp_region_ext (by kernel_rfl) (by kernel_rfl) ?_
          repeat (first | go_big_quiet_step ((go_at_call 16; exact Calls.ext_of (HC.out _ (ExtW.h _)))) | quiet_step (fail))
          refine wpQuiet_nil ?_
          intro w' hw'
          obtain ⟨⟨W, hbW⟩, hw''⟩ := hw'
          have hw3 : w' = W := hw''
          subst hw3
          have HW := Lib.hid (belStep HB.out hbW)
          clear hbW hw'' p0 p1 p2 p3 p4 p5 p6 p7 p8 p9 q0 q1 q2 q3 q4 q5 q6 q7 q8 q9
          go_wp2
          first
            | (go_roundw
               case rel =>
                 refine ⟨k + 1, by go_num, by omega, Lib.hid (fun j hj => ?_), HW⟩
                 rcases Nat.lt_or_ge j k with h | h
                 · exact hall.out j h
                 · obtain rfl : j = k := by omega
                   exact of_decide_eq_true HQ.out
               case measure => simp [intOf]; omega)
            | (go_ret
               exact ⟨ret_bool (sameT_no k hlt HQ.out).symm, HW.out⟩)
      · have hlt' : decide ((k : Int) < (d1.size : Int)) = false := by simp; omega
        have HF : Hid (sameT d1 d2 = true) := by
          show _ = _
          unfold sameT
          rw [decide_eq_true_eq]
          exact ⟨HS.out, fun i hi => hall.out i (by omega)⟩
        go_wp2
        go_ret
        exact ⟨ret_bool HF.out.symm, HB.out⟩
  · have hb : ((d1.size : Int) != (d2.size : Int)) = true := by simp; omega
    have HF : Hid (sameT d1 d2 = false) := by
      show _ = _
      unfold sameT
      rw [decide_eq_false_iff_not]
      exact fun g => hs g.1
    clear hs
    go_enter Try.func15, Try.ntmps15
    go_wp2
    go_ret
    exact ⟨ret_bool HF.out.symm, Below.refl _ _⟩

set_option maxHeartbeats 16000000 in
theorem EqFn_any (A1 A2 : Option Addr) (c1 c2 : Nat) (d1 d2 : Array EN) (w : World) (h1 : RdT w A1 d1) (h2 : RdT w A2 d2) :
    Calls Try.prog 48 #[.slice A1 d1.size c1, .slice A2 d2.size c2, .func (.func 49) #[] #[]] w fun e w' => e = .returned (.bool (sameT d1 d2)) ∧ Below w.heap.size w w' := by
  have HR1 := Lib.hid h1
  have HR2 := Lib.hid h2
  clear h1 h2
  by_cases hs : d1.size = d2.size
  · have hb : ((d1.size : Int) != (d2.size : Int)) = false := by simp [hs]
    have HS := Lib.hid hs
    have hge : d1.size ≤ d2.size := by omega
    have hsz : d1.size ≤ 100 := HR1.out.sz
    clear hs
    go_enter Try.func48, Try.ntmps48
    go_wp2
    go_loopw [17] (fun i wr => ∃ k : Nat, i = .int .i64 k ∧ k ≤ d1.size ∧ Hid (∀ j, j < k → sameP d1[j]! d2[j]!) ∧ Hid (Below w.heap.size w wr)) (fun i _ => d1.size - (intOf i).toNat)
    case atStart => exact ⟨0, rfl, Nat.zero_le _, Lib.hid (fun j hj => absurd hj (by omega)), Lib.hid (Below.refl _ _)⟩
    case round =>
      obtain ⟨k, rfl, hk, hall, HB⟩ := hrel
      by_cases hlt : k < d1.size
      · have kz : (k : Int) < (d1.size : Int) := by omega
        have kz2 : (k : Int) < (d2.size : Int) := by omega
        obtain ⟨b1, o1, rfl, hl1, f1⟩ := (HR1.out.below HB.out).rd.at_ (i := k) (by omega)
        obtain ⟨b2, o2, rfl, hl2, f2⟩ := (HR2.out.below HB.out).rd.at_ (i := k) (by omega)
        have e0 := f1 0 (by omega)
        have e1 := f1 1 (by omega)
        have e2 := f1 2 (by omega)
        have e3 := f1 3 (by omega)
        have e4 := f1 4 (by omega)
        have e5 := f1 5 (by omega)
        have e6 := f1 6 (by omega)
        have e7 := f1 7 (by omega)
        have e8 := f1 8 (by omega)
        have e9 := f1 9 (by omega)
        have g0 := f2 0 (by omega)
        have g1 := f2 1 (by omega)
        have g2 := f2 2 (by omega)
        have g3 := f2 3 (by omega)
        have g4 := f2 4 (by omega)
        have g5 := f2 5 (by omega)
        have g6 := f2 6 (by omega)
        have g7 := f2 7 (by omega)
        have g8 := f2 8 (by omega)
        have g9 := f2 9 (by omega)
        have HC := Lib.hid (fun W (hb : Below wr.heap.size wr W) => eSame_any d1[k]! d2[k]! W ((HR1.out.below (belStep HB.out hb)).el k hlt).zero ((HR2.out.below (belStep HB.out hb)).el k (by omega)).zero (by have := (HR1.out.el k hlt).sz; omega) (by have := (HR2.out.el k (by omega)).sz; omega))
        obtain ⟨q, hq⟩ : ∃ q, decide (sameP d1[k]! d2[k]!) = q := ⟨_, rfl⟩
        rw [hq] at HC
        have HQ := Lib.hid hq
        clear hq
        obtain ⟨x, hx⟩ : ∃ x, d1[k]! = x := ⟨_, rfl⟩
        obtain ⟨y, hy⟩ : ∃ y, d2[k]! = y := ⟨_, rfl⟩
        rw [hx] at e0 e1 e2 e3 e4 e5 e6 e7 e8 e9 HC
        rw [hy] at g0 g1 g2 g3 g4 g5 g6 g7 g8 g9 HC
        clear f1 f2 hx hy
        simp only [Nat.add_zero, encE, List.getElem!_cons_zero, List.getElem!_cons_succ] at e0 e1 e2 e3 e4 e5 e6 e7 e8 e9 g0 g1 g2 g3 g4 g5 g6 g7 g8 g9 HC
        have HB3 := Lib.hid (belAlloc (bel1 wr (.cells #[.int .i64 x.id, .int .i64 x.ph, .int .i64 x.qu, .int .i64 x.t, .int .i64 x.bal, .int .i64 x.abal, .int .i64 x.seen, .int .i64 x.age, .string x.pay, .slice x.A x.z.size x.c] 25)) (.cells #[.int .i64 y.id, .int .i64 y.ph, .int .i64 y.qu, .int .i64 y.t, .int .i64 y.bal, .int .i64 y.abal, .int .i64 y.seen, .int .i64 y.age, .string y.pay, .slice y.A y.z.size y.c] 25))
        have hv1 : ∀ o j, (wr.alloc o).cell? ⟨b2, j, none⟩ = wr.cell? ⟨b2, j, none⟩ := fun o j => World.cell?_alloc_lt wr _ _ hl2
        cases q
        all_goals
          go_wp2_with fail
          refine (HC.out _ HB3.out).mono ?_
          rintro e w' ⟨rfl, hbW⟩
          have HW := Lib.hid (belStep (belStep HB.out HB3.out) hbW)
          clear hbW
          go_wp2
          first
            | (go_roundw
               case rel =>
                 refine ⟨k + 1, by go_num, by omega, Lib.hid (fun j hj => ?_), HW⟩
                 rcases Nat.lt_or_ge j k with h | h
                 · exact hall.out j h
                 · obtain rfl : j = k := by omega
                   exact of_decide_eq_true HQ.out
               case measure => simp [intOf]; omega)
            | (go_ret
               exact ⟨ret_bool (sameT_no k hlt HQ.out).symm, HW.out⟩)
      · have hlt' : decide ((k : Int) < (d1.size : Int)) = false := by simp; omega
        have HF : Hid (sameT d1 d2 = true) := by
          show _ = _
          unfold sameT
          rw [decide_eq_true_eq]
          exact ⟨HS.out, fun i hi => hall.out i (by omega)⟩
        go_wp2
        go_ret
        exact ⟨ret_bool HF.out.symm, HB.out⟩
  · have hb : ((d1.size : Int) != (d2.size : Int)) = true := by simp; omega
    have HF : Hid (sameT d1 d2 = false) := by
      show _ = _
      unfold sameT
      rw [decide_eq_false_iff_not]
      exact fun g => hs g.1
    clear hs
    go_enter Try.func48, Try.ntmps48
    go_wp2
    go_ret
    exact ⟨ret_bool HF.out.symm, Below.refl _ _⟩

theorem tSame_any (A1 A2 : Option Addr) (c1 c2 : Nat) (d1 d2 : Array EN) (w : World) (h1 : RdT w A1 d1) (h2 : RdT w A2 d2) :
    Calls Try.prog 25 #[.slice A1 d1.size c1, .slice A2 d2.size c2] w fun e w' => e = .returned (.bool (sameT d1 d2)) ∧ Below w.heap.size w w' := by
  have HE := Lib.hid (EqFn_any A1 A2 c1 c2 d1 d2 w h1 h2)
  clear h1 h2
  go_enter Try.func25, Try.ntmps25
  go_wp2_with fail
  refine HE.out.mono ?_
  rintro e w' ⟨rfl, hb⟩
  have HB := Lib.hid hb
  clear hb
  go_wp2
  go_ret
  exact ⟨rfl, HB.out⟩
end Go.Proofs.Ytgpejfkmdenonaa
