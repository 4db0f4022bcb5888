/- record.Take. -/
import Derived.Test.YtlpplnmmcgdooaaGreatDoorRecA
import Derived.Test.YtlpplnmmcgdooaaGreatDoorMsgR
namespace Go.Proofs.YtlpplnmmcgdooaaGreatDoor
open Go.RowKit Go.Sort Nb

theorem heap6 {w : World} {g : Nat} {y0 y1 y2 y3 y4 y5 : Value} {T : TypeId} (h : w.heap[g]? = some (.cells #[y0, y1, y2, y3, y4, y5] T (0, 0))) (z0 z1 z2 z3 z4 z5 : Value) :
    ((((((w.setCell ⟨g, 0, none⟩ z0).setCell ⟨g, 1, none⟩ z1).setCell ⟨g, 2, none⟩ z2).setCell ⟨g, 3, none⟩ z3).setCell ⟨g, 4, none⟩ z4).setCell ⟨g, 5, none⟩ z5).heap[g]? = some (.cells #[z0, z1, z2, z3, z4, z5] T (0, 0)) := by
  rw [heap_set (heap_set (heap_set (heap_set (heap_set (heap_set h 0 z0) 1 z1) 2 z2) 3 z3) 4 z4) 5 z5]; rfl
theorem same6 (a : World) (g : Nat) (z0 z1 z2 z3 z4 z5 : Value) : a.grownBy ((((((a.setCell ⟨g, 0, none⟩ z0).setCell ⟨g, 1, none⟩ z1).setCell ⟨g, 2, none⟩ z2).setCell ⟨g, 3, none⟩ z3).setCell ⟨g, 4, none⟩ z4).setCell ⟨g, 5, none⟩ z5) (some g) :=
  grown_setCell (grown_setCell (grown_setCell (grown_setCell (grown_setCell (grown_setCell (World.grownBy.refl a (some g)) (p := ⟨g, 0, none⟩) rfl z0) (p := ⟨g, 1, none⟩) rfl z1) (p := ⟨g, 2, none⟩) rfl z2) (p := ⟨g, 3, none⟩) rfl z3) (p := ⟨g, 4, none⟩) rfl z4) (p := ⟨g, 5, none⟩) rfl z5
theorem bel6 {w a : World} {g : Nat} (h : Below w.heap.size w a) (hg : w.heap.size ≤ g) (z0 z1 z2 z3 z4 z5 : Value) : Below w.heap.size w ((((((a.setCell ⟨g, 0, none⟩ z0).setCell ⟨g, 1, none⟩ z1).setCell ⟨g, 2, none⟩ z2).setCell ⟨g, 3, none⟩ z3).setCell ⟨g, 4, none⟩ z4).setCell ⟨g, 5, none⟩ z5) :=
  below_of_grown h (same6 a g z0 z1 z2 z3 z4 z5) hg
theorem cells6 {w : World} {g : Nat} {z0 z1 z2 z3 z4 z5 : Value} {T : TypeId} (h : w.heap[g]? = some (.cells #[z0, z1, z2, z3, z4, z5] T (0, 0))) :
    (w.cell? ⟨g, 0, none⟩ = some z0 ∧ w.cell? ⟨g, 1, none⟩ = some z1 ∧ w.cell? ⟨g, 2, none⟩ = some z2 ∧ w.cell? ⟨g, 3, none⟩ = some z3 ∧ w.cell? ⟨g, 4, none⟩ = some z4 ∧ w.cell? ⟨g, 5, none⟩ = some z5) ∧
    (w.frozen? ⟨g, 0, none⟩ = false ∧ w.frozen? ⟨g, 1, none⟩ = false ∧ w.frozen? ⟨g, 2, none⟩ = false ∧ w.frozen? ⟨g, 3, none⟩ = false ∧ w.frozen? ⟨g, 4, none⟩ = false ∧ w.frozen? ⟨g, 5, none⟩ = false) :=
  ⟨⟨by rw [heap_cell h]; rfl, by rw [heap_cell h]; rfl, by rw [heap_cell h]; rfl, by rw [heap_cell h]; rfl, by rw [heap_cell h]; rfl, by rw [heap_cell h]; rfl⟩, Lib.frozen_of_heap h 0, Lib.frozen_of_heap h 1, Lib.frozen_of_heap h 2, Lib.frozen_of_heap h 3, Lib.frozen_of_heap h 4, Lib.frozen_of_heap h 5⟩
theorem rec_noFault (a b : Int) (s : Bool) (k : Int) (d t : ByteArray) : NoFault #[.int .i64 a, .int .i64 b, .bool s, .int .i64 k, .string d, .string t] := by
  intro o op t x h1 h2
  match o, h1, h2 with
  | 0, h1, _ => simp at h1
  | 1, h1, _ => simp at h1
  | 2, h1, _ => simp at h1
  | 3, h1, _ => simp at h1
  | 4, _, h2 => simp at h2
  | 5, _, h2 => simp at h2
  | o + 6, h1, _ => simp at h1
/-- What Take tells. -/
def RTakeP (s : ByteArray) (e : Ending) (w' : World) : Prop := ∃ r v ops, e = .returned (.tuple #[recV r, v]) ∧ ErrV w' ops (rtC s.data.toList : Int) v ∧ ops.length ≤ 10 ∧ (rtC s.data.toList ≠ 0 → takeW ∈ ops ∧ r = zR) ∧ (rtC s.data.toList = 0 → r = recO s.data.toList)
theorem rtC_e {l : List UInt8} (h : (recR l).e ≠ 0) : rtC l = (recR l).e := by unfold rtC; rw [if_pos h]
theorem rtC_chk {l : List UInt8} (h : (recR l).e = 0) : rtC l = recC (recO l) := by unfold rtC; rw [if_neg (by omega)]
set_option maxRecDepth 100000 in
set_option maxHeartbeats 8000000 in
theorem rcTake_any (s : ByteArray) (w : World) (hg : Glob w) (hs : s.size ≤ 1000000) :
    Calls Tryz.prog 35 #[.string s] w fun e w' => RTakeP s e w' ∧ Below w.heap.size w w' := by
  have HRN := Lib.hid (fun W => RNew_any s W)
  have HDN := Lib.hid (fun (b : Nat) (r : RS) (W : World) (h : Rdr b s r W) => RDone_any b s r W h)
  have HEN := Lib.hid (fun (b : Nat) (r : RS) (W : World) (h : Rdr b s r W) (hg : Glob W) => REnd_any b s r W h hg)
  have HCK := Lib.hid (fun (r : PR) (W : World) (hg : Glob W) (hd : r.dt.size ≤ 1000000) => rcChk_any r W hg hd)
  have HRA : Hid (recA s.data.toList = numR s.data.toList 1000000 ⟨0, 0⟩) := rfl
  have HRQ : Hid (recQ s.data.toList = numR s.data.toList 1000000 (recA s.data.toList).1) := rfl
  have HRF : Hid (recF s.data.toList = flagR s.data.toList (recQ s.data.toList).1) := rfl
  have HRS : Hid (recS s.data.toList = textR s.data.toList 18000 (recF s.data.toList).1) := rfl
  have HRK : Hid (recK s.data.toList = numR s.data.toList 9 (recF s.data.toList).1) := rfl
  have HRD : Hid (recD s.data.toList = textR s.data.toList 5000 (recK s.data.toList).1) := rfl
  have HRR : Hid (recR s.data.toList = if (recF s.data.toList).2 then endR s.data.toList (recS s.data.toList).1 else endR s.data.toList (recD s.data.toList).1) := rfl
  have HRO : Hid (recO s.data.toList = if (recF s.data.toList).2 then ⟨(recA s.data.toList).2, (recQ s.data.toList).2, true, 0, ⟨#[]⟩, ⟨(recS s.data.toList).2.toArray⟩⟩ else ⟨(recA s.data.toList).2, (recQ s.data.toList).2, false, (recK s.data.toList).2, ⟨(recD s.data.toList).2.toArray⟩, ⟨#[]⟩⟩) := rfl
  have HTE := Lib.hid (@rtC_e s.data.toList)
  have HTK := Lib.hid (@rtC_chk s.data.toList)
  have hld : (recD s.data.toList).2.length ≤ 5000 := textR_len s.data.toList 5000 (recK s.data.toList).1
  have HNM : Hid (∀ (b : Nat) (r r' : RS) (n : Nat) (W : World), numR s.data.toList 1000000 r = (r', n) → Rdr b s r W → Glob W → Calls Tryz.prog 69 #[.pointer (some ⟨b, 0, none⟩), .int .i64 1000000] W fun e w' => e = .returned (.int .i64 (n : Int)) ∧ RPost b s r' W w') := fun b r r' n W hR h hg => by
    have := RNum_any b s r 1000000 W h hg hs
    rw [hR, show ((1000000 : Nat) : Int) = 1000000 by omega] at this
    exact this
  have HNK : Hid (∀ (b : Nat) (r r' : RS) (n : Nat) (W : World), numR s.data.toList 9 r = (r', n) → Rdr b s r W → Glob W → Calls Tryz.prog 69 #[.pointer (some ⟨b, 0, none⟩), .int .i64 9] W fun e w' => e = .returned (.int .i64 (n : Int)) ∧ RPost b s r' W w') := fun b r r' n W hR h hg => by
    have := RNum_any b s r 9 W h hg hs
    rw [hR, show ((9 : Nat) : Int) = 9 by omega] at this
    exact this
  have HTS : Hid (∀ (b : Nat) (r r' : RS) (n : List UInt8) (W : World), textR s.data.toList 18000 r = (r', n) → Rdr b s r W → Glob W → Calls Tryz.prog 70 #[.pointer (some ⟨b, 0, none⟩), .int .i64 18000] W fun e w' => e = .returned (.string ⟨n.toArray⟩) ∧ RPost b s r' W w') := fun b r r' n W hR h hg => by
    have := RText_any b s r 18000 W h hg hs
    rw [hR, show ((18000 : Nat) : Int) = 18000 by omega] at this
    exact this
  have HTD : Hid (∀ (b : Nat) (r r' : RS) (n : List UInt8) (W : World), textR s.data.toList 5000 r = (r', n) → Rdr b s r W → Glob W → Calls Tryz.prog 70 #[.pointer (some ⟨b, 0, none⟩), .int .i64 5000] W fun e w' => e = .returned (.string ⟨n.toArray⟩) ∧ RPost b s r' W w') := fun b r r' n W hR h hg => by
    have := RText_any b s r 5000 W h hg hs
    rw [hR, show ((5000 : Nat) : Int) = 5000 by omega] at this
    exact this
  have HFL : Hid (∀ (b : Nat) (r r' : RS) (n : Bool) (W : World), flagR s.data.toList r = (r', n) → Rdr b s r W → Glob W → Calls Tryz.prog 71 #[.pointer (some ⟨b, 0, none⟩)] W fun e w' => e = .returned (.bool n) ∧ RPost b s r' W w') := fun b r r' n W hR h hg => by
    have := RFlag_any b s r W h hg hs
    rw [hR] at this
    exact this
  have HG := Lib.hid hg
  generalize recA s.data.toList = rA at HRA HRQ HRO
  generalize recQ s.data.toList = rQ at HRQ HRF HRO
  generalize recF s.data.toList = rF at HRF HRS HRK HRR HRO
  generalize recS s.data.toList = rS at HRS HRR HRO
  generalize recK s.data.toList = rK at HRK HRD HRO
  generalize recD s.data.toList = rD at HRD HRR HRO hld
  obtain ⟨r1, n1⟩ := rA
  obtain ⟨r2, n2⟩ := rQ
  obtain ⟨r3, sn⟩ := rF
  obtain ⟨r4, t4⟩ := rS
  obtain ⟨r5, n5⟩ := rK
  obtain ⟨r6, t6⟩ := rD
  dsimp only at HRQ HRF HRS HRK HRD HRR HRO hld
  have hgl : 0 < w.heap.size := lt_of_cell hg
  clear hg hs
  go_enter Tryz.func35, Tryz.ntmps35
  go_wp2_with fail
  refine (HRN.out _).mono ?_
  rintro e w1 ⟨rfl, rfl⟩
  go_wp2_with fail
  refine (HNM.out (w.heap.size + 1) ⟨0, 0⟩ r1 n1 _ HRA.out.symm (Rdr.new2 s w _) (HG.out.below (belAlloc (bel1 w _) _))).mono ?_
  rintro e w2 ⟨rfl, hP2⟩
  have G2 := Lib.hid (Glob.rpost (HG.out.below (belAlloc (bel1 w _) _)) (Rdr.new2 s w _) hP2)
  have B2 : Hid (Below w.heap.size w w2) := below_of_grown (belAlloc (bel1 w _) _) hP2.2 (by omega)
  have R2 := Lib.hid hP2.1
  have Z2 := Lib.hid (heap_grown ((Below.heap_alloc _ _ _ (by simp)).trans (heap_new w (.cells #[.int .i64 0, .int .i64 0, .bool false, .int .i64 0, .string ⟨#[]⟩, .string ⟨#[]⟩] 49))) hP2.2 (by omega))
  clear hP2
  go_wp2_with fail
  refine (HNM.out (w.heap.size + 1) r1 r2 n2 _ HRQ.out.symm R2.out G2.out).mono ?_
  rintro e w3 ⟨rfl, hP3⟩
  have G3 := Lib.hid (Glob.rpost G2.out R2.out hP3)
  have B3 : Hid (Below w.heap.size w w3) := below_of_grown B2.out hP3.2 (by omega)
  have R3 := Lib.hid hP3.1
  have Z3 := Lib.hid (heap_grown Z2.out hP3.2 (by omega))
  clear hP3
  go_wp2_with fail
  refine (HFL.out (w.heap.size + 1) r2 r3 sn _ HRF.out.symm R3.out G3.out).mono ?_
  rintro e w4 ⟨rfl, hP4⟩
  have G4 := Lib.hid (Glob.rpost G3.out R3.out hP4)
  have B4 : Hid (Below w.heap.size w w4) := below_of_grown B3.out hP4.2 (by omega)
  have R4 := Lib.hid hP4.1
  have Z4 := Lib.hid (heap_grown Z3.out hP4.2 (by omega))
  have hz4 : w.heap.size + 2 ≤ w4.heap.size := by have := R4.out.lt; omega
  clear hP4
  cases sn
  · rw [if_neg (by simp)] at HRR HRO
    go_wp2_with fail
    refine (HNK.out (w.heap.size + 1) r3 r5 n5 _ HRK.out.symm (R4.out.below (bel1 w4 _)) (G4.out.below (bel1 w4 _))).mono ?_
    rintro e w5 ⟨rfl, hP5⟩
    have G5 := Lib.hid (Glob.rpost (G4.out.below (bel1 w4 _)) (R4.out.below (bel1 w4 _)) hP5)
    have B5 : Hid (Below w.heap.size w w5) := below_of_grown (belAlloc B4.out _) hP5.2 (by omega)
    have R5 := Lib.hid hP5.1
    have Z5 := Lib.hid (heap_grown ((Below.heap_alloc _ _ _ (lt_of_heap Z4.out)).trans Z4.out) hP5.2 (by omega))
    have M5 := Lib.hid (heap_grown (heap_new w4 (.cells #[.int .i64 (n1 : Int), .int .i64 (n2 : Int), .bool false, .int .i64 0, .string ⟨#[]⟩, .string ⟨#[]⟩] 49)) hP5.2 (by omega))
    clear hP5
    go_wp2_with fail
    refine (HTD.out (w.heap.size + 1) r5 r6 t6 _ HRD.out.symm R5.out G5.out).mono ?_
    rintro e w6 ⟨rfl, hP6⟩
    have G6 := Lib.hid (Glob.rpost G5.out R5.out hP6)
    have B6 : Hid (Below w.heap.size w w6) := below_of_grown B5.out hP6.2 (by omega)
    have R6 := Lib.hid hP6.1
    have Z6 := Lib.hid (heap_grown Z5.out hP6.2 (by omega))
    have M6 := Lib.hid (heap_grown M5.out hP6.2 (by omega))
    clear hP6
    obtain ⟨⟨-, -, -, c3, c4, -⟩, -, -, -, f3, f4, -⟩ := cells6 M6.out
    have z6 : w4.heap.size < w6.heap.size := lt_of_heap M6.out
    have hgs := grown_setCell (grown_setCell (World.grownBy.refl w6 (some w4.heap.size)) (p := ⟨w4.heap.size, 3, none⟩) rfl (.int .i64 (n5 : Int))) (p := ⟨w4.heap.size, 4, none⟩) rfl (.string ⟨t6.toArray⟩)
    have RSS := Lib.hid (R6.out.grown M6.out (rec_noFault _ _ _ _ _ _) hgs (by omega))
    have GS : Hid (Glob ((w6.setCell ⟨w4.heap.size, 3, none⟩ (.int .i64 (n5 : Int))).setCell ⟨w4.heap.size, 4, none⟩ (.string ⟨t6.toArray⟩))) := hgs.cell G6.out (by intro e; injection e with e; simp only at e; omega)
    have BS : Hid (Below w.heap.size w ((w6.setCell ⟨w4.heap.size, 3, none⟩ (.int .i64 (n5 : Int))).setCell ⟨w4.heap.size, 4, none⟩ (.string ⟨t6.toArray⟩))) := below_of_grown B6.out hgs (by omega)
    have ZS := Lib.hid (heap_grown Z6.out hgs (by omega))
    have MS : Hid (((w6.setCell ⟨w4.heap.size, 3, none⟩ (.int .i64 (n5 : Int))).setCell ⟨w4.heap.size, 4, none⟩ (.string ⟨t6.toArray⟩)).heap[w4.heap.size]? = some (.cells #[.int .i64 (n1 : Int), .int .i64 (n2 : Int), .bool false, .int .i64 (n5 : Int), .string ⟨t6.toArray⟩, .string ⟨#[]⟩] 49 (0, 0))) := by show _ = _; rw [heap_set (heap_set M6.out 3 (.int .i64 (n5 : Int))) 4 (.string ⟨t6.toArray⟩)]; rfl
    clear hgs
    go_wp2_with fail
    generalize ((w6.setCell ⟨w4.heap.size, 3, none⟩ (.int .i64 (n5 : Int))).setCell ⟨w4.heap.size, 4, none⟩ (.string ⟨t6.toArray⟩)) = wS at RSS GS BS ZS MS ⊢
    have hdd : (⟨t6.toArray⟩ : ByteArray).size ≤ 1000000 := by rw [str_size]; omega
    generalize (⟨t6.toArray⟩ : ByteArray) = dd at MS HRO hdd ⊢
    generalize (⟨#[]⟩ : ByteArray) = ss at MS HRO
    generalize (n5 : Int) = kk at MS HRO ⊢
    generalize r6 = rl at RSS HRR
    generalize false = sn at MS HRO
    clear c3 c4 f3 f4 z6
    refine (HEN.out (w.heap.size + 1) rl wS RSS.out GS.out).mono ?_
    rintro e w7 ⟨rfl, hP7⟩
    rw [← HRR.out] at hP7
    have G7 := Lib.hid (Glob.rpost GS.out RSS.out hP7)
    have B7 : Hid (Below w.heap.size w w7) := below_of_grown BS.out hP7.2 (by omega)
    have R7 := Lib.hid hP7.1
    have Z7 := Lib.hid (heap_grown ZS.out hP7.2 (by omega))
    have M7 := Lib.hid (heap_grown MS.out hP7.2 (by omega))
    clear hP7
    go_wp2_with fail
    refine (HDN.out (w.heap.size + 1) _ w7 R7.out).mono ?_
    rintro e w8 ⟨ev, rfl, hfv, rfl⟩
    rcases hfv with ⟨he, rfl⟩ | ⟨he, op, ops, hol, hch⟩
    · have HTV := Lib.hid (HTK.out he)
      clear he
      obtain ⟨⟨c0, c1, c2, c3, c4, c5⟩, -⟩ := cells6 M7.out
      have z7 : w4.heap.size < w7.heap.size := lt_of_heap M7.out
      go_wp2_with fail
      refine (HCK.out ⟨(n1 : Int), (n2 : Int), sn, kk, dd, ss⟩ w7 G7.out hdd).mono ?_
      rintro e w9 ⟨⟨v, rfl, hv⟩, hb9⟩
      rw [← HRO.out] at hv
      have B9 := Lib.hid (belStep B7.out hb9)
      have Z9 := Lib.hid ((hb9.block _ (lt_of_heap Z7.out)).trans Z7.out)
      have M9 := Lib.hid ((hb9.block _ (lt_of_heap M7.out)).trans M7.out)
      clear hb9 c0 c1 c2 c3 c4 c5 z7
      rcases recC_2 (recO s.data.toList) with h0 | h0
      · rw [h0] at hv
        obtain rfl : v = .nilIface := errNilR hv
        have HT0 : Hid (rtC s.data.toList = 0) := by show _ = _; rw [HTV.out]; exact h0
        have HALL := Lib.hid (And.intro (heap6 Z9.out (.int .i64 (n1 : Int)) (.int .i64 (n2 : Int)) (.bool sn) (.int .i64 kk) (.string dd) (.string ss)) (bel6 B9.out (Nat.le_refl _) (.int .i64 (n1 : Int)) (.int .i64 (n2 : Int)) (.bool sn) (.int .i64 kk) (.string dd) (.string ss)))
        clear h0 hv
        obtain ⟨⟨c0, c1, c2, c3, c4, c5⟩, -⟩ := cells6 M9.out
        obtain ⟨⟨x0, x1, x2, x3, x4, x5⟩, u0, u1, u2, u3, u4, u5⟩ := cells6 Z9.out
        have z9 : w4.heap.size < w9.heap.size := lt_of_heap M9.out
        have zz9 : w.heap.size < w9.heap.size := lt_of_heap Z9.out
        go_wp2
        generalize ((((((w9.setCell ⟨w.heap.size, 0, none⟩ (.int .i64 (n1 : Int))).setCell ⟨w.heap.size, 1, none⟩ (.int .i64 (n2 : Int))).setCell ⟨w.heap.size, 2, none⟩ (.bool sn)).setCell ⟨w.heap.size, 3, none⟩ (.int .i64 kk)).setCell ⟨w.heap.size, 4, none⟩ (.string dd)).setCell ⟨w.heap.size, 5, none⟩ (.string ss)) = wf at HALL ⊢
        obtain ⟨hF, hFin⟩ := HALL.out
        obtain ⟨⟨y0, y1, y2, y3, y4, y5⟩, -⟩ := cells6 hF
        refine bodyPost_ret (v := .tuple #[.agg #[.int .i64 (n1 : Int), .int .i64 (n2 : Int), .bool sn, .int .i64 kk, .string dd, .string ss], .nilIface]) (by simp [results, Tryz.results35, go_sem, y0, y1, y2, y3, y4, y5]) rfl ?_
        exact ⟨⟨⟨(n1 : Int), (n2 : Int), sn, kk, dd, ss⟩, .nilIface, [], rfl, Or.inl ⟨by rw [HT0.out]; rfl, rfl, rfl⟩, by simp, fun h => absurd HT0.out h, fun _ => HRO.out.symm⟩, hFin⟩
      · rw [h0] at hv
        have hch := errChain hv (by decide)
        have HT0 : Hid (rtC s.data.toList = 2) := by show _ = _; rw [HTV.out]; exact h0
        have HWr := Lib.hid (Wrap_any takeW [recordW] 2 v w9 (by simpa using hch))
        obtain ⟨t1, u1, rfl⟩ : ∃ t u, v = .iface t u := chain_iface hch
        clear h0 hv hch
        go_wp2_with fail
        refine HWr.out.mono ?_
        rintro e w10 ⟨v, rfl, hch, hb10⟩
        have B10 := Lib.hid (belStep B9.out hb10)
        have Z10 := Lib.hid ((hb10.block _ (lt_of_heap Z9.out)).trans Z9.out)
        have HCH := Lib.hid hch
        clear hb10 hch
        have HALL := Lib.hid (And.intro (heap6 Z10.out (.int .i64 0) (.int .i64 0) (.bool false) (.int .i64 0) (.string ⟨#[]⟩) (.string ⟨#[]⟩)) (And.intro (same6 w10 w.heap.size (.int .i64 0) (.int .i64 0) (.bool false) (.int .i64 0) (.string ⟨#[]⟩) (.string ⟨#[]⟩)) (bel6 B10.out (Nat.le_refl _) (.int .i64 0) (.int .i64 0) (.bool false) (.int .i64 0) (.string ⟨#[]⟩) (.string ⟨#[]⟩))))
        obtain ⟨⟨x0, x1, x2, x3, x4, x5⟩, u0, u1, u2, u3, u4, u5⟩ := cells6 Z10.out
        have zz10 : w.heap.size < w10.heap.size := lt_of_heap Z10.out
        go_wp2
        generalize ((((((w10.setCell ⟨w.heap.size, 0, none⟩ (.int .i64 0)).setCell ⟨w.heap.size, 1, none⟩ (.int .i64 0)).setCell ⟨w.heap.size, 2, none⟩ (.bool false)).setCell ⟨w.heap.size, 3, none⟩ (.int .i64 0)).setCell ⟨w.heap.size, 4, none⟩ (.string ⟨#[]⟩)).setCell ⟨w.heap.size, 5, none⟩ (.string ⟨#[]⟩)) = wf at HALL ⊢
        obtain ⟨hF, hsm, hFin⟩ := HALL.out
        obtain ⟨⟨y0, y1, y2, y3, y4, y5⟩, -⟩ := cells6 hF
        refine bodyPost_ret (v := .tuple #[.agg #[.int .i64 0, .int .i64 0, .bool false, .int .i64 0, .string ⟨#[]⟩, .string ⟨#[]⟩], v]) (by simp [results, Tryz.results35, go_sem, y0, y1, y2, y3, y4, y5]) rfl ?_
        exact ⟨⟨zR, v, [takeW, recordW], rfl, Or.inr ⟨by rw [HT0.out]; decide, by rw [HT0.out]; exact chain_grown Z10.out (rec_noFault _ _ _ _ _ _) hsm HCH.out⟩, by simp, fun _ => ⟨by simp, rfl⟩, fun h => by rw [HT0.out] at h; cases h⟩, hFin⟩
    · have HTV := Lib.hid (HTE.out he)
      have HWr := Lib.hid (Wrap_any takeW (op :: ops) _ ev w7 hch)
      have HE := Lib.hid he
      have HOL := Lib.hid hol
      obtain ⟨t1, u1, rfl⟩ : ∃ t u, ev = .iface t u := chain_iface hch
      clear he hol hch
      go_wp2_with fail
      refine HWr.out.mono ?_
      rintro e w10 ⟨v, rfl, hch, hb10⟩
      have B10 := Lib.hid (belStep B7.out hb10)
      have Z10 := Lib.hid ((hb10.block _ (lt_of_heap Z7.out)).trans Z7.out)
      have HCH := Lib.hid hch
      clear hb10 hch
      have HALL := Lib.hid (And.intro (heap6 Z10.out (.int .i64 0) (.int .i64 0) (.bool false) (.int .i64 0) (.string ⟨#[]⟩) (.string ⟨#[]⟩)) (And.intro (same6 w10 w.heap.size (.int .i64 0) (.int .i64 0) (.bool false) (.int .i64 0) (.string ⟨#[]⟩) (.string ⟨#[]⟩)) (bel6 B10.out (Nat.le_refl _) (.int .i64 0) (.int .i64 0) (.bool false) (.int .i64 0) (.string ⟨#[]⟩) (.string ⟨#[]⟩))))
      obtain ⟨⟨x0, x1, x2, x3, x4, x5⟩, u0, u1, u2, u3, u4, u5⟩ := cells6 Z10.out
      have zz10 : w.heap.size < w10.heap.size := lt_of_heap Z10.out
      go_wp2
      generalize ((((((w10.setCell ⟨w.heap.size, 0, none⟩ (.int .i64 0)).setCell ⟨w.heap.size, 1, none⟩ (.int .i64 0)).setCell ⟨w.heap.size, 2, none⟩ (.bool false)).setCell ⟨w.heap.size, 3, none⟩ (.int .i64 0)).setCell ⟨w.heap.size, 4, none⟩ (.string ⟨#[]⟩)).setCell ⟨w.heap.size, 5, none⟩ (.string ⟨#[]⟩)) = wf at HALL ⊢
      obtain ⟨hF, hsm, hFin⟩ := HALL.out
      obtain ⟨⟨y0, y1, y2, y3, y4, y5⟩, -⟩ := cells6 hF
      refine bodyPost_ret (v := .tuple #[.agg #[.int .i64 0, .int .i64 0, .bool false, .int .i64 0, .string ⟨#[]⟩, .string ⟨#[]⟩], v]) (by simp [results, Tryz.results35, go_sem, y0, y1, y2, y3, y4, y5]) rfl ?_
      refine ⟨⟨zR, v, takeW :: op :: ops, rfl, Or.inr ⟨by rw [HTV.out]; have := HE.out; omega, by rw [HTV.out]; exact chain_grown Z10.out (rec_noFault _ _ _ _ _ _) hsm HCH.out⟩, by have := HOL.out; simp; omega, fun _ => ⟨by simp, rfl⟩, fun h => absurd (by rw [← HTV.out, h]) HE.out⟩, hFin⟩
  · rw [if_pos rfl] at HRR HRO
    go_wp2_with fail
    refine (HTS.out (w.heap.size + 1) r3 r4 t4 _ HRS.out.symm (R4.out.below (bel1 w4 _)) (G4.out.below (bel1 w4 _))).mono ?_
    rintro e w6 ⟨rfl, hP6⟩
    have G6 := Lib.hid (Glob.rpost (G4.out.below (bel1 w4 _)) (R4.out.below (bel1 w4 _)) hP6)
    have B6 : Hid (Below w.heap.size w w6) := below_of_grown (belAlloc B4.out _) hP6.2 (by omega)
    have R6 := Lib.hid hP6.1
    have Z6 := Lib.hid (heap_grown ((Below.heap_alloc _ _ _ (lt_of_heap Z4.out)).trans Z4.out) hP6.2 (by omega))
    have M6 := Lib.hid (heap_grown (heap_new w4 (.cells #[.int .i64 (n1 : Int), .int .i64 (n2 : Int), .bool true, .int .i64 0, .string ⟨#[]⟩, .string ⟨#[]⟩] 49)) hP6.2 (by omega))
    clear hP6
    obtain ⟨⟨-, -, -, -, -, c5⟩, -, -, -, -, -, f5⟩ := cells6 M6.out
    have z6 : w4.heap.size < w6.heap.size := lt_of_heap M6.out
    have hgs := grown_setCell (World.grownBy.refl w6 (some w4.heap.size)) (p := ⟨w4.heap.size, 5, none⟩) rfl (.string ⟨t4.toArray⟩)
    have RSS := Lib.hid (R6.out.grown M6.out (rec_noFault _ _ _ _ _ _) hgs (by omega))
    have GS : Hid (Glob (w6.setCell ⟨w4.heap.size, 5, none⟩ (.string ⟨t4.toArray⟩))) := hgs.cell G6.out (by intro e; injection e with e; simp only at e; omega)
    have BS : Hid (Below w.heap.size w (w6.setCell ⟨w4.heap.size, 5, none⟩ (.string ⟨t4.toArray⟩))) := below_of_grown B6.out hgs (by omega)
    have ZS := Lib.hid (heap_grown Z6.out hgs (by omega))
    have MS : Hid ((w6.setCell ⟨w4.heap.size, 5, none⟩ (.string ⟨t4.toArray⟩)).heap[w4.heap.size]? = some (.cells #[.int .i64 (n1 : Int), .int .i64 (n2 : Int), .bool true, .int .i64 0, .string ⟨#[]⟩, .string ⟨t4.toArray⟩] 49 (0, 0))) := by show _ = _; rw [heap_set M6.out 5 (.string ⟨t4.toArray⟩)]; rfl
    clear hgs
    go_wp2_with fail
    generalize (w6.setCell ⟨w4.heap.size, 5, none⟩ (.string ⟨t4.toArray⟩)) = wS at RSS GS BS ZS MS ⊢
    generalize (⟨t4.toArray⟩ : ByteArray) = ss at MS HRO ⊢
    have hdd : (⟨#[]⟩ : ByteArray).size ≤ 1000000 := by decide
    generalize (⟨#[]⟩ : ByteArray) = dd at MS HRO hdd
    generalize (0 : Int) = kk at MS HRO
    generalize r4 = rl at RSS HRR
    generalize true = sn at MS HRO
    clear c5 f5 z6
    refine (HEN.out (w.heap.size + 1) rl wS RSS.out GS.out).mono ?_
    rintro e w7 ⟨rfl, hP7⟩
    rw [← HRR.out] at hP7
    have G7 := Lib.hid (Glob.rpost GS.out RSS.out hP7)
    have B7 : Hid (Below w.heap.size w w7) := below_of_grown BS.out hP7.2 (by omega)
    have R7 := Lib.hid hP7.1
    have Z7 := Lib.hid (heap_grown ZS.out hP7.2 (by omega))
    have M7 := Lib.hid (heap_grown MS.out hP7.2 (by omega))
    clear hP7
    go_wp2_with fail
    refine (HDN.out (w.heap.size + 1) _ w7 R7.out).mono ?_
    rintro e w8 ⟨ev, rfl, hfv, rfl⟩
    rcases hfv with ⟨he, rfl⟩ | ⟨he, op, ops, hol, hch⟩
    · have HTV := Lib.hid (HTK.out he)
      clear he
      obtain ⟨⟨c0, c1, c2, c3, c4, c5⟩, -⟩ := cells6 M7.out
      have z7 : w4.heap.size < w7.heap.size := lt_of_heap M7.out
      go_wp2_with fail
      refine (HCK.out ⟨(n1 : Int), (n2 : Int), sn, kk, dd, ss⟩ w7 G7.out hdd).mono ?_
      rintro e w9 ⟨⟨v, rfl, hv⟩, hb9⟩
      rw [← HRO.out] at hv
      have B9 := Lib.hid (belStep B7.out hb9)
      have Z9 := Lib.hid ((hb9.block _ (lt_of_heap Z7.out)).trans Z7.out)
      have M9 := Lib.hid ((hb9.block _ (lt_of_heap M7.out)).trans M7.out)
      clear hb9 c0 c1 c2 c3 c4 c5 z7
      rcases recC_2 (recO s.data.toList) with h0 | h0
      · rw [h0] at hv
        obtain rfl : v = .nilIface := errNilR hv
        have HT0 : Hid (rtC s.data.toList = 0) := by show _ = _; rw [HTV.out]; exact h0
        have HALL := Lib.hid (And.intro (heap6 Z9.out (.int .i64 (n1 : Int)) (.int .i64 (n2 : Int)) (.bool sn) (.int .i64 kk) (.string dd) (.string ss)) (bel6 B9.out (Nat.le_refl _) (.int .i64 (n1 : Int)) (.int .i64 (n2 : Int)) (.bool sn) (.int .i64 kk) (.string dd) (.string ss)))
        clear h0 hv
        obtain ⟨⟨c0, c1, c2, c3, c4, c5⟩, -⟩ := cells6 M9.out
        obtain ⟨⟨x0, x1, x2, x3, x4, x5⟩, u0, u1, u2, u3, u4, u5⟩ := cells6 Z9.out
        have z9 : w4.heap.size < w9.heap.size := lt_of_heap M9.out
        have zz9 : w.heap.size < w9.heap.size := lt_of_heap Z9.out
        go_wp2
        generalize ((((((w9.setCell ⟨w.heap.size, 0, none⟩ (.int .i64 (n1 : Int))).setCell ⟨w.heap.size, 1, none⟩ (.int .i64 (n2 : Int))).setCell ⟨w.heap.size, 2, none⟩ (.bool sn)).setCell ⟨w.heap.size, 3, none⟩ (.int .i64 kk)).setCell ⟨w.heap.size, 4, none⟩ (.string dd)).setCell ⟨w.heap.size, 5, none⟩ (.string ss)) = wf at HALL ⊢
        obtain ⟨hF, hFin⟩ := HALL.out
        obtain ⟨⟨y0, y1, y2, y3, y4, y5⟩, -⟩ := cells6 hF
        refine bodyPost_ret (v := .tuple #[.agg #[.int .i64 (n1 : Int), .int .i64 (n2 : Int), .bool sn, .int .i64 kk, .string dd, .string ss], .nilIface]) (by simp [results, Tryz.results35, go_sem, y0, y1, y2, y3, y4, y5]) rfl ?_
        exact ⟨⟨⟨(n1 : Int), (n2 : Int), sn, kk, dd, ss⟩, .nilIface, [], rfl, Or.inl ⟨by rw [HT0.out]; rfl, rfl, rfl⟩, by simp, fun h => absurd HT0.out h, fun _ => HRO.out.symm⟩, hFin⟩
      · rw [h0] at hv
        have hch := errChain hv (by decide)
        have HT0 : Hid (rtC s.data.toList = 2) := by show _ = _; rw [HTV.out]; exact h0
        have HWr := Lib.hid (Wrap_any takeW [recordW] 2 v w9 (by simpa using hch))
        obtain ⟨t1, u1, rfl⟩ : ∃ t u, v = .iface t u := chain_iface hch
        clear h0 hv hch
        go_wp2_with fail
        refine HWr.out.mono ?_
        rintro e w10 ⟨v, rfl, hch, hb10⟩
        have B10 := Lib.hid (belStep B9.out hb10)
        have Z10 := Lib.hid ((hb10.block _ (lt_of_heap Z9.out)).trans Z9.out)
        have HCH := Lib.hid hch
        clear hb10 hch
        have HALL := Lib.hid (And.intro (heap6 Z10.out (.int .i64 0) (.int .i64 0) (.bool false) (.int .i64 0) (.string ⟨#[]⟩) (.string ⟨#[]⟩)) (And.intro (same6 w10 w.heap.size (.int .i64 0) (.int .i64 0) (.bool false) (.int .i64 0) (.string ⟨#[]⟩) (.string ⟨#[]⟩)) (bel6 B10.out (Nat.le_refl _) (.int .i64 0) (.int .i64 0) (.bool false) (.int .i64 0) (.string ⟨#[]⟩) (.string ⟨#[]⟩))))
        obtain ⟨⟨x0, x1, x2, x3, x4, x5⟩, u0, u1, u2, u3, u4, u5⟩ := cells6 Z10.out
        have zz10 : w.heap.size < w10.heap.size := lt_of_heap Z10.out
        go_wp2
        generalize ((((((w10.setCell ⟨w.heap.size, 0, none⟩ (.int .i64 0)).setCell ⟨w.heap.size, 1, none⟩ (.int .i64 0)).setCell ⟨w.heap.size, 2, none⟩ (.bool false)).setCell ⟨w.heap.size, 3, none⟩ (.int .i64 0)).setCell ⟨w.heap.size, 4, none⟩ (.string ⟨#[]⟩)).setCell ⟨w.heap.size, 5, none⟩ (.string ⟨#[]⟩)) = wf at HALL ⊢
        obtain ⟨hF, hsm, hFin⟩ := HALL.out
        obtain ⟨⟨y0, y1, y2, y3, y4, y5⟩, -⟩ := cells6 hF
        refine bodyPost_ret (v := .tuple #[.agg #[.int .i64 0, .int .i64 0, .bool false, .int .i64 0, .string ⟨#[]⟩, .string ⟨#[]⟩], v]) (by simp [results, Tryz.results35, go_sem, y0, y1, y2, y3, y4, y5]) rfl ?_
        exact ⟨⟨zR, v, [takeW, recordW], rfl, Or.inr ⟨by rw [HT0.out]; decide, by rw [HT0.out]; exact chain_grown Z10.out (rec_noFault _ _ _ _ _ _) hsm HCH.out⟩, by simp, fun _ => ⟨by simp, rfl⟩, fun h => by rw [HT0.out] at h; cases h⟩, hFin⟩
    · have HTV := Lib.hid (HTE.out he)
      have HWr := Lib.hid (Wrap_any takeW (op :: ops) _ ev w7 hch)
      have HE := Lib.hid he
      have HOL := Lib.hid hol
      obtain ⟨t1, u1, rfl⟩ : ∃ t u, ev = .iface t u := chain_iface hch
      clear he hol hch
      go_wp2_with fail
      refine HWr.out.mono ?_
      rintro e w10 ⟨v, rfl, hch, hb10⟩
      have B10 := Lib.hid (belStep B7.out hb10)
      have Z10 := Lib.hid ((hb10.block _ (lt_of_heap Z7.out)).trans Z7.out)
      have HCH := Lib.hid hch
      clear hb10 hch
      have HALL := Lib.hid (And.intro (heap6 Z10.out (.int .i64 0) (.int .i64 0) (.bool false) (.int .i64 0) (.string ⟨#[]⟩) (.string ⟨#[]⟩)) (And.intro (same6 w10 w.heap.size (.int .i64 0) (.int .i64 0) (.bool false) (.int .i64 0) (.string ⟨#[]⟩) (.string ⟨#[]⟩)) (bel6 B10.out (Nat.le_refl _) (.int .i64 0) (.int .i64 0) (.bool false) (.int .i64 0) (.string ⟨#[]⟩) (.string ⟨#[]⟩))))
      obtain ⟨⟨x0, x1, x2, x3, x4, x5⟩, u0, u1, u2, u3, u4, u5⟩ := cells6 Z10.out
      have zz10 : w.heap.size < w10.heap.size := lt_of_heap Z10.out
      go_wp2
      generalize ((((((w10.setCell ⟨w.heap.size, 0, none⟩ (.int .i64 0)).setCell ⟨w.heap.size, 1, none⟩ (.int .i64 0)).setCell ⟨w.heap.size, 2, none⟩ (.bool false)).setCell ⟨w.heap.size, 3, none⟩ (.int .i64 0)).setCell ⟨w.heap.size, 4, none⟩ (.string ⟨#[]⟩)).setCell ⟨w.heap.size, 5, none⟩ (.string ⟨#[]⟩)) = wf at HALL ⊢
      obtain ⟨hF, hsm, hFin⟩ := HALL.out
      obtain ⟨⟨y0, y1, y2, y3, y4, y5⟩, -⟩ := cells6 hF
      refine bodyPost_ret (v := .tuple #[.agg #[.int .i64 0, .int .i64 0, .bool false, .int .i64 0, .string ⟨#[]⟩, .string ⟨#[]⟩], v]) (by simp [results, Tryz.results35, go_sem, y0, y1, y2, y3, y4, y5]) rfl ?_
      refine ⟨⟨zR, v, takeW :: op :: ops, rfl, Or.inr ⟨by rw [HTV.out]; have := HE.out; omega, by rw [HTV.out]; exact chain_grown Z10.out (rec_noFault _ _ _ _ _ _) hsm HCH.out⟩, by have := HOL.out; simp; omega, fun _ => ⟨by simp, rfl⟩, fun h => absurd (by rw [← HTV.out, h]) HE.out⟩, hFin⟩
end Go.Proofs.YtlpplnmmcgdooaaGreatDoor
