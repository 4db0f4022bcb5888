/- The document's Take of records (rubatoref11). -/
import Derived.Test.YtlpplnmmcgdooaaGreatDoorDocK
namespace Go.Proofs.YtlpplnmmcgdooaaGreatDoor
open Go.RowKit Go.Sort Nb

theorem flagR_pos {s : List UInt8} {r : RS} (h : r.pos ≤ s.length) : (flagR s r).1.pos ≤ s.length := by
  rcases hf : flagR s r with ⟨r', b⟩
  by_cases he : r'.e = 0
  · exact (flagR_ok hf he).2.2 h
  · unfold flagR at hf
    (repeat' split at hf) <;> (injection hf with h1 h2; subst h1; first | exact h | (exfalso; exact he rfl))
/-- What the variables hold: the result, the reader, the record. -/
structure JS (w : World) (gI : Nat) (s : ByteArray) (r : RS) (pc : ByteArray) (W : World) : Prop where
  rz : W.heap[w.heap.size]? = some (.cells #[.int .i64 0, .int .i64 0, .bool false, .int .i64 0, .string ⟨#[]⟩, .string ⟨#[]⟩] 53 (0, 0))
  ri : W.heap[gI]? = some (.cells #[.string s, .int .i64 (r.pos : Int), .string pc, .int .i64 (r.e : Int)] 106 (0, 0))
  b : Below w.heap.size w W
  g : w.heap.size < gI
theorem JS.below {w : World} {gI : Nat} {s pc : ByteArray} {r : RS} {W W' : World} (h : JS w gI s r pc W) (hb : Below W.heap.size W W') : JS w gI s r pc W' :=
  ⟨(hb.block _ (lt_of_heap h.rz)).trans h.rz, (hb.block _ (lt_of_heap h.ri)).trans h.ri, belStep h.b hb, h.g⟩
theorem farI {w : World} {g i : Nat} (hi : i ≠ g) (a b c d : Value) : ((((w.setCell ⟨g, 0, none⟩ a).setCell ⟨g, 1, none⟩ b).setCell ⟨g, 2, none⟩ c).setCell ⟨g, 3, none⟩ d).heap[i]? = w.heap[i]? := by
  rw [Below.heap_setCell _ _ _ _ hi, Below.heap_setCell _ _ _ _ hi, Below.heap_setCell _ _ _ _ hi, Below.heap_setCell _ _ _ _ hi]
theorem JS.set {w : World} {gI : Nat} {s pc : ByteArray} {r : RS} {W : World} (h : JS w gI s r pc W) (r' : RS) (pc' : ByteArray) : JS w gI s r' pc' ((((W.setCell ⟨gI, 0, none⟩ (.string s)).setCell ⟨gI, 1, none⟩ (.int .i64 (r'.pos : Int))).setCell ⟨gI, 2, none⟩ (.string pc')).setCell ⟨gI, 3, none⟩ (.int .i64 (r'.e : Int))) :=
  ⟨(farI (by have := h.g; omega) _ _ _ _).trans h.rz, heap4 h.ri _ _ _ _, bel4 h.b (by have := h.g; omega) _ _ _ _, h.g⟩
theorem JS.setO {w : World} {gI gO : Nat} {s pc : ByteArray} {r : RS} {W : World} (h : JS w gI s r pc W) (h1 : gI < gO) (j : Nat) (v : Value) : JS w gI s r pc (W.setCell ⟨gO, j, none⟩ v) :=
  ⟨(Below.heap_setCell _ _ _ _ (by have := h.g; show w.heap.size ≠ gO; omega)).trans h.rz, (Below.heap_setCell _ _ _ _ (by show gI ≠ gO; omega)).trans h.ri, h.b.setCell (p := ⟨gO, j, none⟩) (by have := h.g; show w.heap.size ≤ gO; omega) v, h.g⟩
/-- What Take tells. -/
def DRTakeP (s : ByteArray) (e : Ending) : Prop := ∃ r, e = .returned (.tuple #[recV r, .int .i64 (rtC s.data.toList : Int)]) ∧ (rtC s.data.toList ≠ 0 → r = zR) ∧ (rtC s.data.toList = 0 → r = recO s.data.toList)
set_option maxRecDepth 100000 in
set_option maxHeartbeats 8000000 in
theorem rRecTake_any (s : ByteArray) (w : World) (hs : s.size ≤ 1000000) :
    Calls Tryz.prog 36 #[.string s] w fun e w' => DRTakeP s e ∧ Below w.heap.size w w' := by
  have hsl : s.data.toList.length = s.size := by simp
  have HNM : Hid (∀ (pc : ByteArray) (r r' : RS) (n : Nat) (W : World), r.pos ≤ s.size → numR s.data.toList 1000000 r = (r', n) → Calls Tryz.prog 61 #[.agg #[.string s, .int .i64 (r.pos : Int), .string pc, .int .i64 (r.e : Int)], .int .i64 1000000] W fun e w' => Below W.heap.size W w' ∧ ∃ pc', e = .returned (.tuple #[.agg #[.string s, .int .i64 (r'.pos : Int), .string pc', .int .i64 (r'.e : Int)], .int .i64 (n : Int)])) := fun pc r r' n W hp hR => by
    have := rNum_any s pc r 1000000 W hp hs
    rw [hR, show ((1000000 : Nat) : Int) = 1000000 by omega] at this
    exact this
  have HNK : Hid (∀ (pc : ByteArray) (r r' : RS) (n : Nat) (W : World), r.pos ≤ s.size → numR s.data.toList 9 r = (r', n) → Calls Tryz.prog 61 #[.agg #[.string s, .int .i64 (r.pos : Int), .string pc, .int .i64 (r.e : Int)], .int .i64 9] W fun e w' => Below W.heap.size W w' ∧ ∃ pc', e = .returned (.tuple #[.agg #[.string s, .int .i64 (r'.pos : Int), .string pc', .int .i64 (r'.e : Int)], .int .i64 (n : Int)])) := fun pc r r' n W hp hR => by
    have := rNum_any s pc r 9 W hp hs
    rw [hR, show ((9 : Nat) : Int) = 9 by omega] at this
    exact this
  have HTS : Hid (∀ (pc : ByteArray) (r r' : RS) (n : List UInt8) (W : World), r.pos ≤ s.size → textR s.data.toList 18000 r = (r', n) → Calls Tryz.prog 62 #[.agg #[.string s, .int .i64 (r.pos : Int), .string pc, .int .i64 (r.e : Int)], .int .i64 18000] W fun e w' => Below W.heap.size W w' ∧ ∃ pc', e = .returned (.tuple #[.agg #[.string s, .int .i64 (r'.pos : Int), .string pc', .int .i64 (r'.e : Int)], .string ⟨n.toArray⟩])) := fun pc r r' n W hp hR => by
    have := rText_any s pc r 18000 W hp hs
    rw [hR, show ((18000 : Nat) : Int) = 18000 by omega] at this
    exact this
  have HTD : Hid (∀ (pc : ByteArray) (r r' : RS) (n : List UInt8) (W : World), r.pos ≤ s.size → textR s.data.toList 5000 r = (r', n) → Calls Tryz.prog 62 #[.agg #[.string s, .int .i64 (r.pos : Int), .string pc, .int .i64 (r.e : Int)], .int .i64 5000] W fun e w' => Below W.heap.size W w' ∧ ∃ pc', e = .returned (.tuple #[.agg #[.string s, .int .i64 (r'.pos : Int), .string pc', .int .i64 (r'.e : Int)], .string ⟨n.toArray⟩])) := fun pc r r' n W hp hR => by
    have := rText_any s pc r 5000 W hp hs
    rw [hR, show ((5000 : Nat) : Int) = 5000 by omega] at this
    exact this
  have HFL : Hid (∀ (pc : ByteArray) (r r' : RS) (n : Bool) (W : World), r.pos ≤ s.size → flagR s.data.toList r = (r', n) → Calls Tryz.prog 73 #[.agg #[.string s, .int .i64 (r.pos : Int), .string pc, .int .i64 (r.e : Int)]] W fun e w' => Below W.heap.size W w' ∧ ∃ pc', e = .returned (.tuple #[.agg #[.string s, .int .i64 (r'.pos : Int), .string pc', .int .i64 (r'.e : Int)], .bool n])) := fun pc r r' n W hp hR => by
    have := rFlag_any s pc r W hp hs
    rw [hR] at this
    exact this
  have HEN : Hid (∀ (pc : ByteArray) (r r' : RS) (W : World), r' = endR s.data.toList r → Calls Tryz.prog 64 #[.agg #[.string s, .int .i64 (r.pos : Int), .string pc, .int .i64 (r.e : Int)]] W fun e w' => Below W.heap.size W w' ∧ ∃ pc', e = .returned (.agg #[.string s, .int .i64 (r'.pos : Int), .string pc', .int .i64 (r'.e : Int)])) := fun pc r r' W hR => by
    have := rEnd_any s pc r W
    rw [← hR] at this
    exact this
  have HN0 : Hid (∀ (r' : RS) (n : Nat) (W : World), numR s.data.toList 1000000 ⟨0, 0⟩ = (r', n) → Calls Tryz.prog 61 #[.agg #[.string s, .int .i64 0, .string ⟨#[]⟩, .int .i64 0], .int .i64 1000000] W fun e w' => Below W.heap.size W w' ∧ ∃ pc', e = .returned (.tuple #[.agg #[.string s, .int .i64 (r'.pos : Int), .string pc', .int .i64 (r'.e : Int)], .int .i64 (n : Int)])) := fun r' n W hR => HNM.out ⟨#[]⟩ ⟨0, 0⟩ r' n W (Nat.zero_le _) hR
  have HCK := Lib.hid (fun (r : PR) (W : World) (hd : r.dt.size ≤ 1000000) => rRecChk_any r W hd)
  have HRA : Hid (recA s.data.toList = numR s.data.toList 1000000 ⟨0, 0⟩) := rfl
  have HRQ : Hid (recQ s.data.toList = numR s.data.toList 1000000 (recA s.data.toList).1) := rfl
  have HRF : Hid (recF s.data.toList = flagR s.data.toList (recQ s.data.toList).1) := rfl
  have HRS : Hid (recS s.data.toList = textR s.data.toList 18000 (recF s.data.toList).1) := rfl
  have HRK : Hid (recK s.data.toList = numR s.data.toList 9 (recF s.data.toList).1) := rfl
  have HRD : Hid (recD s.data.toList = textR s.data.toList 5000 (recK s.data.toList).1) := rfl
  have HRR : Hid (recR s.data.toList = if (recF s.data.toList).2 then endR s.data.toList (recS s.data.toList).1 else endR s.data.toList (recD s.data.toList).1) := rfl
  have HRO : Hid (recO s.data.toList = if (recF s.data.toList).2 then ⟨(recA s.data.toList).2, (recQ s.data.toList).2, true, 0, ⟨#[]⟩, ⟨(recS s.data.toList).2.toArray⟩⟩ else ⟨(recA s.data.toList).2, (recQ s.data.toList).2, false, (recK s.data.toList).2, ⟨(recD s.data.toList).2.toArray⟩, ⟨#[]⟩⟩) := rfl
  have HTE := Lib.hid (@rtC_e s.data.toList)
  have HTK := Lib.hid (@rtC_chk s.data.toList)
  have hld : (recD s.data.toList).2.length ≤ 5000 := textR_len s.data.toList 5000 (recK s.data.toList).1
  have pA : (recA s.data.toList).1.pos ≤ s.size := by have := numR_pos (s := s.data.toList) (most := 1000000) (r := ⟨0, 0⟩) (Nat.zero_le _); rw [hsl] at this; exact this
  have pQ : (recQ s.data.toList).1.pos ≤ s.size := by have := numR_pos (s := s.data.toList) (most := 1000000) (r := (recA s.data.toList).1) (by omega); rw [hsl] at this; exact this
  have pF : (recF s.data.toList).1.pos ≤ s.size := by have := flagR_pos (s := s.data.toList) (r := (recQ s.data.toList).1) (by omega); rw [hsl] at this; exact this
  have pK : (recK s.data.toList).1.pos ≤ s.size := by have := numR_pos (s := s.data.toList) (most := 9) (r := (recF s.data.toList).1) (by omega); rw [hsl] at this; exact this
  generalize recA s.data.toList = rA at HRA HRQ HRO pA
  generalize recQ s.data.toList = rQ at HRQ HRF HRO pQ
  generalize recF s.data.toList = rF at HRF HRS HRK HRR HRO pF
  generalize recS s.data.toList = rS at HRS HRR HRO
  generalize recK s.data.toList = rK at HRK HRD HRO pK
  generalize recD s.data.toList = rD at HRD HRR HRO hld
  obtain ⟨r1, n1⟩ := rA
  obtain ⟨r2, n2⟩ := rQ
  obtain ⟨r3, sn⟩ := rF
  obtain ⟨r4, t4⟩ := rS
  obtain ⟨r5, n5⟩ := rK
  obtain ⟨r6, t6⟩ := rD
  dsimp only at HRQ HRF HRS HRK HRD HRR HRO hld pA pQ pF pK
  clear hs hsl
  go_enter Tryz.func36, Tryz.ntmps36
  go_wp2_with fail
  refine (HN0.out r1 n1 _ HRA.out.symm).mono ?_
  rintro e w1 ⟨hb1, pc1, rfl⟩
  have J1 : Hid (JS w w1.heap.size s r1 pc1 (w1.alloc (.cells #[.string s, .int .i64 (r1.pos : Int), .string pc1, .int .i64 (r1.e : Int)] 106))) := ⟨(Below.heap_alloc _ _ _ (by have := hb1.size; simp at this; omega)).trans (heap_box hb1), heap_new w1 _, belAlloc (belStep (bel1 w _) hb1) _, by have := hb1.size; simp at this; omega⟩
  have hz1 : w.heap.size < w1.heap.size := lt_of_heap (heap_box hb1)
  clear hb1
  go_wp2_with fail
  refine (HNM.out pc1 r1 r2 n2 _ pA HRQ.out.symm).mono ?_
  rintro e w2 ⟨hb2, pc2, rfl⟩
  have J2 := Lib.hid ((J1.out.below hb2).set r2 pc2)
  obtain ⟨d0, u0, d1, u1, d2, u2, d3, u3⟩ := cells4 (J1.out.below hb2).ri
  have hz2 : w1.heap.size < w2.heap.size := lt_of_heap (J1.out.below hb2).ri
  clear hb2 J1
  go_upto_region 3 with (fail)
  generalize ((((w2.setCell ⟨w1.heap.size, 0, none⟩ (.string s)).setCell ⟨w1.heap.size, 1, none⟩ (.int .i64 (r2.pos : Int))).setCell ⟨w1.heap.size, 2, none⟩ (.string pc2)).setCell ⟨w1.heap.size, 3, none⟩ (.int .i64 (r2.e : Int))) = w3 at J2 ⊢
  obtain ⟨e0, -, e1, -, e2, -, e3, -⟩ := cells4 J2.out.ri
  have hz3 : w1.heap.size < w3.heap.size := lt_of_heap J2.out.ri
  clear d0 u0 d1 u1 d2 u2 d3 u3 hz2
  go_wp2_with fail
  refine (HFL.out pc2 r2 r3 sn _ pQ HRF.out.symm).mono ?_
  rintro e w4 ⟨hb4, pc3, rfl⟩
  have J4 := Lib.hid ((J2.out.below hb4).set r3 pc3)
  obtain ⟨d0, u0, d1, u1, d2, u2, d3, u3⟩ := cells4 (J2.out.below hb4).ri
  have hz4 : w1.heap.size < w4.heap.size := lt_of_heap (J2.out.below hb4).ri
  clear hb4 J2 e0 e1 e2 e3 hz3
  go_upto_region 4 with (fail)
  generalize ((((w4.setCell ⟨w1.heap.size, 0, none⟩ (.string s)).setCell ⟨w1.heap.size, 1, none⟩ (.int .i64 (r3.pos : Int))).setCell ⟨w1.heap.size, 2, none⟩ (.string pc3)).setCell ⟨w1.heap.size, 3, none⟩ (.int .i64 (r3.e : Int))) = w5 at J4 ⊢
  have hz5 : w1.heap.size < w5.heap.size := lt_of_heap J4.out.ri
  clear d0 u0 d1 u1 d2 u2 d3 u3 hz4
  obtain ⟨e0, -, e1, -, e2, -, e3, -⟩ := cells4 J4.out.ri
  cases sn
  · rw [if_neg (by simp)] at HRR HRO
    go_wp2_with fail
    refine (HNK.out pc3 r3 r5 n5 _ pF HRK.out.symm).mono ?_
    rintro e w6 ⟨hb6, pc6, rfl⟩
    have J6 := Lib.hid ((J4.out.below (bel1 w5 _)).below hb6)
    have M6 := Lib.hid (heap_box hb6)
    have hz6 : w5.heap.size < w6.heap.size := lt_of_heap M6.out
    clear hb6 e0 e1 e2 e3
    go_wp2_with fail
    refine (HTD.out pc6 r5 r6 t6 _ pK HRD.out.symm).mono ?_
    rintro e w7 ⟨hb7, pc7, rfl⟩
    have J7 := Lib.hid (((J6.out.below (belStep (bel1 w6 _) hb7)).below (bel1 w7 (.cells #[.string s, .int .i64 (r6.pos : Int), .string pc7, .int .i64 (r6.e : Int)] 106))))
    have M7 := Lib.hid (((hb7.block _ (by have := lt_of_heap M6.out; simp; omega)).trans ((Below.heap_alloc _ _ _ (lt_of_heap M6.out)).trans M6.out)))
    have hz7 : w5.heap.size < w7.heap.size := lt_of_heap M7.out
    clear hb7 J6 M6
    go_upto_region 10 with (fail)
    have N8 := Lib.hid (heap_new w7 (.cells #[.string s, .int .i64 (r6.pos : Int), .string pc7, .int .i64 (r6.e : Int)] 106))
    have M8 := Lib.hid ((Below.heap_alloc w7 (.cells #[.string s, .int .i64 (r6.pos : Int), .string pc7, .int .i64 (r6.e : Int)] 106) _ (lt_of_heap M7.out)).trans M7.out)
    have hzz : w7.heap.size < (w7.alloc (.cells #[.string s, .int .i64 (r6.pos : Int), .string pc7, .int .i64 (r6.e : Int)] 106)).heap.size := by simp
    have hz8 : w5.heap.size < (w7.alloc (.cells #[.string s, .int .i64 (r6.pos : Int), .string pc7, .int .i64 (r6.e : Int)] 106)).heap.size := by simp; omega
    generalize w7.alloc (.cells #[.string s, .int .i64 (r6.pos : Int), .string pc7, .int .i64 (r6.e : Int)] 106) = w8 at J7 N8 M8 hzz hz8 ⊢
    have hz9 : w1.heap.size < w8.heap.size := lt_of_heap J7.out.ri
    obtain ⟨p0, -, p1, -, p2, -, p3, -⟩ := cells4 N8.out
    obtain ⟨d0, u0, d1, u1, d2, u2, d3, u3⟩ := cells4 J7.out.ri
    obtain ⟨⟨-, -, -, o3, o4, o5⟩, -, -, -, g3, g4, g5⟩ := cells6 M8.out
    have J9 := Lib.hid (((J7.out.set r6 pc7).setO hz5 3 (.int .i64 (n5 : Int))).setO hz5 4 (.string ⟨t6.toArray⟩))
    have M9 : Hid (((((((w8.setCell ⟨w1.heap.size, 0, none⟩ (.string s)).setCell ⟨w1.heap.size, 1, none⟩ (.int .i64 (r6.pos : Int))).setCell ⟨w1.heap.size, 2, none⟩ (.string pc7)).setCell ⟨w1.heap.size, 3, none⟩ (.int .i64 (r6.e : Int))).setCell ⟨w5.heap.size, 3, none⟩ (.int .i64 (n5 : Int))).setCell ⟨w5.heap.size, 4, none⟩ (.string ⟨t6.toArray⟩)).heap[w5.heap.size]? = some (.cells #[.int .i64 (n1 : Int), .int .i64 (n2 : Int), .bool false, .int .i64 (n5 : Int), .string ⟨t6.toArray⟩, .string ⟨#[]⟩] 53 (0, 0))) := by show _ = _; rw [(heap_set (heap_set ((farI (by omega : w5.heap.size ≠ w1.heap.size) _ _ _ _).trans M8.out) 3 (.int .i64 (n5 : Int))) 4 (.string ⟨t6.toArray⟩))]; rfl
    clear J7 M8 N8
    go_upto_region 11 with (fail)
    generalize ((((((w8.setCell ⟨w1.heap.size, 0, none⟩ (.string s)).setCell ⟨w1.heap.size, 1, none⟩ (.int .i64 (r6.pos : Int))).setCell ⟨w1.heap.size, 2, none⟩ (.string pc7)).setCell ⟨w1.heap.size, 3, none⟩ (.int .i64 (r6.e : Int))).setCell ⟨w5.heap.size, 3, none⟩ (.int .i64 (n5 : Int))).setCell ⟨w5.heap.size, 4, none⟩ (.string ⟨t6.toArray⟩)) = w9 at J9 M9 ⊢
    clear p0 p1 p2 p3 d0 u0 d1 u1 d2 u2 d3 u3 o3 o4 o5 g3 g4 g5 hzz hz8 hz9
    have hdd0 : (⟨t6.toArray⟩ : ByteArray).size ≤ 1000000 := by rw [str_size]; omega
    obtain ⟨dd, hddE⟩ : ∃ x : ByteArray, x = ⟨t6.toArray⟩ := ⟨_, rfl⟩
    rw [← hddE] at M9 HRO
    have hdd : dd.size ≤ 1000000 := by rw [hddE]; exact hdd0
    obtain ⟨ss, hss⟩ : ∃ x : ByteArray, x = ⟨#[]⟩ := ⟨_, rfl⟩
    rw [← hss] at M9 HRO
    obtain ⟨kk, hkk⟩ : ∃ x : Int, x = (n5 : Int) := ⟨_, rfl⟩
    rw [← hkk] at M9 HRO
    obtain ⟨sn, hsn⟩ : ∃ x : Bool, x = false := ⟨_, rfl⟩
    rw [← hsn] at M9 HRO
    clear hddE hss hkk hsn hdd0
    obtain ⟨d0, u0, d1, u1, d2, u2, d3, u3⟩ := cells4 J9.out.ri
    have hz9 : w1.heap.size < w9.heap.size := lt_of_heap J9.out.ri
    go_wp2_with fail
    refine (HEN.out pc7 r6 (recR s.data.toList) _ HRR.out).mono ?_
    rintro e w10 ⟨hb10, pc10, rfl⟩
    have J10 := Lib.hid ((J9.out.below hb10).set (recR s.data.toList) pc10)
    have M10 := Lib.hid ((farI (by omega : w5.heap.size ≠ w1.heap.size) (.string s) (.int .i64 ((recR s.data.toList).pos : Int)) (.string pc10) (.int .i64 ((recR s.data.toList).e : Int))).trans ((hb10.block _ (lt_of_heap M9.out)).trans M9.out))
    clear d0 u0 d1 u1 d2 u2 d3 u3 hz9
    obtain ⟨d0, u0, d1, u1, d2, u2, d3, u3⟩ := cells4 (J9.out.below hb10).ri
    have hz10 : w1.heap.size < w10.heap.size := lt_of_heap (J9.out.below hb10).ri
    clear hb10 J9 M9
    go_upto_region 12 with (fail)
    generalize ((((w10.setCell ⟨w1.heap.size, 0, none⟩ (.string s)).setCell ⟨w1.heap.size, 1, none⟩ (.int .i64 ((recR s.data.toList).pos : Int))).setCell ⟨w1.heap.size, 2, none⟩ (.string pc10)).setCell ⟨w1.heap.size, 3, none⟩ (.int .i64 ((recR s.data.toList).e : Int))) = w11 at J10 M10 ⊢
    clear d0 u0 d1 u1 d2 u2 d3 u3 hz10
    obtain ⟨-, -, -, -, -, -, d3, -⟩ := cells4 J10.out.ri
    have hz11 : w1.heap.size < w11.heap.size := lt_of_heap J10.out.ri
    have hz12 : w5.heap.size < w11.heap.size := lt_of_heap M10.out
    by_cases he : (recR s.data.toList).e = 0
    · have HTV := Lib.hid (HTK.out he)
      have he0 : (((recR s.data.toList).e : Int) != 0) = false := by simp [he]
      clear he
      obtain ⟨⟨o0, o1, o2, o3, o4, o5⟩, -⟩ := cells6 M10.out
      go_wp2_with fail
      refine (HCK.out ⟨(n1 : Int), (n2 : Int), sn, kk, dd, ss⟩ w11 hdd).mono ?_
      rintro e w12 ⟨rfl, hb12⟩
      rw [← HRO.out]
      have J12 := Lib.hid (J10.out.below hb12)
      have M12 := Lib.hid ((hb12.block _ (lt_of_heap M10.out)).trans M10.out)
      clear hb12 d3 o0 o1 o2 o3 o4 o5 hz11 hz12 he0
      obtain ⟨⟨x0, x1, x2, x3, x4, x5⟩, u0, u1, u2, u3, u4, u5⟩ := cells6 J12.out.rz
      have hzz : w.heap.size < w12.heap.size := lt_of_heap J12.out.rz
      rcases recC_2 (recO s.data.toList) with h0 | h0
      · have HT0 : Hid (rtC s.data.toList = 0) := by show _ = _; rw [HTV.out]; exact h0
        rw [h0]
        clear h0
        obtain ⟨⟨o0, o1, o2, o3, o4, o5⟩, -⟩ := cells6 M12.out
        have hz12 : w5.heap.size < w12.heap.size := lt_of_heap M12.out
        have HALL := Lib.hid (And.intro (heap6 J12.out.rz (.int .i64 (n1 : Int)) (.int .i64 (n2 : Int)) (.bool sn) (.int .i64 kk) (.string dd) (.string ss)) (bel6 J12.out.b (Nat.le_refl _) (.int .i64 (n1 : Int)) (.int .i64 (n2 : Int)) (.bool sn) (.int .i64 kk) (.string dd) (.string ss)))
        go_wp2
        generalize ((((((w12.setCell ⟨w.heap.size, 0, none⟩ (.int .i64 (n1 : Int))).setCell ⟨w.heap.size, 1, none⟩ (.int .i64 (n2 : Int))).setCell ⟨w.heap.size, 2, none⟩ (.bool sn)).setCell ⟨w.heap.size, 3, none⟩ (.int .i64 kk)).setCell ⟨w.heap.size, 4, none⟩ (.string dd)).setCell ⟨w.heap.size, 5, none⟩ (.string ss)) = wf at HALL ⊢
        obtain ⟨hF, hFin⟩ := HALL.out
        obtain ⟨⟨y0, y1, y2, y3, y4, y5⟩, -⟩ := cells6 hF
        refine bodyPost_ret (v := .tuple #[.agg #[.int .i64 (n1 : Int), .int .i64 (n2 : Int), .bool sn, .int .i64 kk, .string dd, .string ss], .int .i64 0]) (by simp [results, Tryz.results36, go_sem, y0, y1, y2, y3, y4, y5]) rfl ?_
        exact ⟨⟨⟨(n1 : Int), (n2 : Int), sn, kk, dd, ss⟩, by rw [HT0.out]; rfl, fun h => absurd HT0.out h, fun _ => HRO.out.symm⟩, hFin⟩
      · have HT0 : Hid (rtC s.data.toList = 2) := by show _ = _; rw [HTV.out]; exact h0
        rw [h0]
        clear h0
        have HALL := Lib.hid (And.intro (heap6 J12.out.rz (.int .i64 0) (.int .i64 0) (.bool false) (.int .i64 0) (.string ⟨#[]⟩) (.string ⟨#[]⟩)) (bel6 J12.out.b (Nat.le_refl _) (.int .i64 0) (.int .i64 0) (.bool false) (.int .i64 0) (.string ⟨#[]⟩) (.string ⟨#[]⟩)))
        go_wp2
        generalize ((((((w12.setCell ⟨w.heap.size, 0, none⟩ (.int .i64 0)).setCell ⟨w.heap.size, 1, none⟩ (.int .i64 0)).setCell ⟨w.heap.size, 2, none⟩ (.bool false)).setCell ⟨w.heap.size, 3, none⟩ (.int .i64 0)).setCell ⟨w.heap.size, 4, none⟩ (.string ⟨#[]⟩)).setCell ⟨w.heap.size, 5, none⟩ (.string ⟨#[]⟩)) = wf at HALL ⊢
        obtain ⟨hF, hFin⟩ := HALL.out
        obtain ⟨⟨y0, y1, y2, y3, y4, y5⟩, -⟩ := cells6 hF
        refine bodyPost_ret (v := .tuple #[.agg #[.int .i64 0, .int .i64 0, .bool false, .int .i64 0, .string ⟨#[]⟩, .string ⟨#[]⟩], .int .i64 2]) (by simp [results, Tryz.results36, go_sem, y0, y1, y2, y3, y4, y5]) rfl ?_
        exact ⟨⟨zR, by rw [HT0.out]; rfl, fun _ => rfl, fun h => by rw [HT0.out] at h; cases h⟩, hFin⟩
    · have HTV := Lib.hid (HTE.out he)
      have HE := Lib.hid he
      have he0 : (((recR s.data.toList).e : Int) != 0) = true := by simpa using he
      clear he
      obtain ⟨⟨x0, x1, x2, x3, x4, x5⟩, u0, u1, u2, u3, u4, u5⟩ := cells6 J10.out.rz
      have hzz : w.heap.size < w11.heap.size := lt_of_heap J10.out.rz
      have hne : w.heap.size ≠ w1.heap.size := by omega
      have HALL := Lib.hid (And.intro (heap6 J10.out.rz (.int .i64 0) (.int .i64 0) (.bool false) (.int .i64 0) (.string ⟨#[]⟩) (.string ⟨#[]⟩)) (bel6 J10.out.b (Nat.le_refl _) (.int .i64 0) (.int .i64 0) (.bool false) (.int .i64 0) (.string ⟨#[]⟩) (.string ⟨#[]⟩)))
      go_wp2_with fail
      go_region
      all_goals go_wp2
      all_goals
        generalize ((((((w11.setCell ⟨w.heap.size, 0, none⟩ (.int .i64 0)).setCell ⟨w.heap.size, 1, none⟩ (.int .i64 0)).setCell ⟨w.heap.size, 2, none⟩ (.bool false)).setCell ⟨w.heap.size, 3, none⟩ (.int .i64 0)).setCell ⟨w.heap.size, 4, none⟩ (.string ⟨#[]⟩)).setCell ⟨w.heap.size, 5, none⟩ (.string ⟨#[]⟩)) = wf at HALL ⊢
        obtain ⟨hF, hFin⟩ := HALL.out
        obtain ⟨⟨y0, y1, y2, y3, y4, y5⟩, -⟩ := cells6 hF
        refine bodyPost_ret (v := .tuple #[.agg #[.int .i64 0, .int .i64 0, .bool false, .int .i64 0, .string ⟨#[]⟩, .string ⟨#[]⟩], .int .i64 ((recR s.data.toList).e : Int)]) (by simp [results, Tryz.results36, go_sem, y0, y1, y2, y3, y4, y5]) rfl ?_
        exact ⟨⟨zR, by rw [HTV.out]; rfl, fun _ => rfl, fun h => absurd (HTV.out.symm.trans h) HE.out⟩, hFin.drew⟩
  · rw [if_pos rfl] at HRR HRO
    go_wp2_with fail
    refine (HTS.out pc3 r3 r4 t4 _ pF HRS.out.symm).mono ?_
    rintro e w7 ⟨hb7, pc7, rfl⟩
    have J7 := Lib.hid (((J4.out.below (bel1 w5 _)).below hb7).below (bel1 w7 (.cells #[.string s, .int .i64 (r4.pos : Int), .string pc7, .int .i64 (r4.e : Int)] 106)))
    have M7 := Lib.hid (heap_box hb7)
    have hz7 : w5.heap.size < w7.heap.size := lt_of_heap M7.out
    clear hb7 e0 e1 e2 e3
    go_upto_region 7 with (fail)
    have N8 := Lib.hid (heap_new w7 (.cells #[.string s, .int .i64 (r4.pos : Int), .string pc7, .int .i64 (r4.e : Int)] 106))
    have M8 := Lib.hid ((Below.heap_alloc w7 (.cells #[.string s, .int .i64 (r4.pos : Int), .string pc7, .int .i64 (r4.e : Int)] 106) _ (lt_of_heap M7.out)).trans M7.out)
    have hzz : w7.heap.size < (w7.alloc (.cells #[.string s, .int .i64 (r4.pos : Int), .string pc7, .int .i64 (r4.e : Int)] 106)).heap.size := by simp
    have hz8 : w5.heap.size < (w7.alloc (.cells #[.string s, .int .i64 (r4.pos : Int), .string pc7, .int .i64 (r4.e : Int)] 106)).heap.size := by simp; omega
    generalize w7.alloc (.cells #[.string s, .int .i64 (r4.pos : Int), .string pc7, .int .i64 (r4.e : Int)] 106) = w8 at J7 N8 M8 hzz hz8 ⊢
    have hz9 : w1.heap.size < w8.heap.size := lt_of_heap J7.out.ri
    obtain ⟨p0, -, p1, -, p2, -, p3, -⟩ := cells4 N8.out
    obtain ⟨d0, u0, d1, u1, d2, u2, d3, u3⟩ := cells4 J7.out.ri
    obtain ⟨⟨-, -, -, o3, o4, o5⟩, -, -, -, g3, g4, g5⟩ := cells6 M8.out
    have J9 := Lib.hid ((J7.out.set r4 pc7).setO hz5 5 (.string ⟨t4.toArray⟩))
    have M9 : Hid ((((((w8.setCell ⟨w1.heap.size, 0, none⟩ (.string s)).setCell ⟨w1.heap.size, 1, none⟩ (.int .i64 (r4.pos : Int))).setCell ⟨w1.heap.size, 2, none⟩ (.string pc7)).setCell ⟨w1.heap.size, 3, none⟩ (.int .i64 (r4.e : Int))).setCell ⟨w5.heap.size, 5, none⟩ (.string ⟨t4.toArray⟩)).heap[w5.heap.size]? = some (.cells #[.int .i64 (n1 : Int), .int .i64 (n2 : Int), .bool true, .int .i64 0, .string ⟨#[]⟩, .string ⟨t4.toArray⟩] 53 (0, 0))) := by show _ = _; rw [(heap_set ((farI (by omega : w5.heap.size ≠ w1.heap.size) _ _ _ _).trans M8.out) 5 (.string ⟨t4.toArray⟩))]; rfl
    clear J7 M8 N8
    go_upto_region 11 with (fail)
    generalize (((((w8.setCell ⟨w1.heap.size, 0, none⟩ (.string s)).setCell ⟨w1.heap.size, 1, none⟩ (.int .i64 (r4.pos : Int))).setCell ⟨w1.heap.size, 2, none⟩ (.string pc7)).setCell ⟨w1.heap.size, 3, none⟩ (.int .i64 (r4.e : Int))).setCell ⟨w5.heap.size, 5, none⟩ (.string ⟨t4.toArray⟩)) = w9 at J9 M9 ⊢
    clear p0 p1 p2 p3 d0 u0 d1 u1 d2 u2 d3 u3 o3 o4 o5 g3 g4 g5 hzz hz8 hz9
    obtain ⟨ss, hss⟩ : ∃ x : ByteArray, x = ⟨t4.toArray⟩ := ⟨_, rfl⟩
    rw [← hss] at M9 HRO
    obtain ⟨dd, hddE⟩ : ∃ x : ByteArray, x = ⟨#[]⟩ := ⟨_, rfl⟩
    rw [← hddE] at M9 HRO
    have hdd : dd.size ≤ 1000000 := by rw [hddE]; decide
    obtain ⟨kk, hkk⟩ : ∃ x : Int, x = 0 := ⟨_, rfl⟩
    rw [← hkk] at M9 HRO
    obtain ⟨sn, hsn⟩ : ∃ x : Bool, x = true := ⟨_, rfl⟩
    rw [← hsn] at M9 HRO
    clear hddE hss hkk hsn
    obtain ⟨d0, u0, d1, u1, d2, u2, d3, u3⟩ := cells4 J9.out.ri
    have hz9 : w1.heap.size < w9.heap.size := lt_of_heap J9.out.ri
    go_wp2_with fail
    refine (HEN.out pc7 r4 (recR s.data.toList) _ HRR.out).mono ?_
    rintro e w10 ⟨hb10, pc10, rfl⟩
    have J10 := Lib.hid ((J9.out.below hb10).set (recR s.data.toList) pc10)
    have M10 := Lib.hid ((farI (by omega : w5.heap.size ≠ w1.heap.size) (.string s) (.int .i64 ((recR s.data.toList).pos : Int)) (.string pc10) (.int .i64 ((recR s.data.toList).e : Int))).trans ((hb10.block _ (lt_of_heap M9.out)).trans M9.out))
    clear d0 u0 d1 u1 d2 u2 d3 u3 hz9
    obtain ⟨d0, u0, d1, u1, d2, u2, d3, u3⟩ := cells4 (J9.out.below hb10).ri
    have hz10 : w1.heap.size < w10.heap.size := lt_of_heap (J9.out.below hb10).ri
    clear hb10 J9 M9
    go_upto_region 12 with (fail)
    generalize ((((w10.setCell ⟨w1.heap.size, 0, none⟩ (.string s)).setCell ⟨w1.heap.size, 1, none⟩ (.int .i64 ((recR s.data.toList).pos : Int))).setCell ⟨w1.heap.size, 2, none⟩ (.string pc10)).setCell ⟨w1.heap.size, 3, none⟩ (.int .i64 ((recR s.data.toList).e : Int))) = w11 at J10 M10 ⊢
    clear d0 u0 d1 u1 d2 u2 d3 u3 hz10
    obtain ⟨-, -, -, -, -, -, d3, -⟩ := cells4 J10.out.ri
    have hz11 : w1.heap.size < w11.heap.size := lt_of_heap J10.out.ri
    have hz12 : w5.heap.size < w11.heap.size := lt_of_heap M10.out
    by_cases he : (recR s.data.toList).e = 0
    · have HTV := Lib.hid (HTK.out he)
      have he0 : (((recR s.data.toList).e : Int) != 0) = false := by simp [he]
      clear he
      obtain ⟨⟨o0, o1, o2, o3, o4, o5⟩, -⟩ := cells6 M10.out
      go_wp2_with fail
      refine (HCK.out ⟨(n1 : Int), (n2 : Int), sn, kk, dd, ss⟩ w11 hdd).mono ?_
      rintro e w12 ⟨rfl, hb12⟩
      rw [← HRO.out]
      have J12 := Lib.hid (J10.out.below hb12)
      have M12 := Lib.hid ((hb12.block _ (lt_of_heap M10.out)).trans M10.out)
      clear hb12 d3 o0 o1 o2 o3 o4 o5 hz11 hz12 he0
      obtain ⟨⟨x0, x1, x2, x3, x4, x5⟩, u0, u1, u2, u3, u4, u5⟩ := cells6 J12.out.rz
      have hzz : w.heap.size < w12.heap.size := lt_of_heap J12.out.rz
      rcases recC_2 (recO s.data.toList) with h0 | h0
      · have HT0 : Hid (rtC s.data.toList = 0) := by show _ = _; rw [HTV.out]; exact h0
        rw [h0]
        clear h0
        obtain ⟨⟨o0, o1, o2, o3, o4, o5⟩, -⟩ := cells6 M12.out
        have hz12 : w5.heap.size < w12.heap.size := lt_of_heap M12.out
        have HALL := Lib.hid (And.intro (heap6 J12.out.rz (.int .i64 (n1 : Int)) (.int .i64 (n2 : Int)) (.bool sn) (.int .i64 kk) (.string dd) (.string ss)) (bel6 J12.out.b (Nat.le_refl _) (.int .i64 (n1 : Int)) (.int .i64 (n2 : Int)) (.bool sn) (.int .i64 kk) (.string dd) (.string ss)))
        go_wp2
        generalize ((((((w12.setCell ⟨w.heap.size, 0, none⟩ (.int .i64 (n1 : Int))).setCell ⟨w.heap.size, 1, none⟩ (.int .i64 (n2 : Int))).setCell ⟨w.heap.size, 2, none⟩ (.bool sn)).setCell ⟨w.heap.size, 3, none⟩ (.int .i64 kk)).setCell ⟨w.heap.size, 4, none⟩ (.string dd)).setCell ⟨w.heap.size, 5, none⟩ (.string ss)) = wf at HALL ⊢
        obtain ⟨hF, hFin⟩ := HALL.out
        obtain ⟨⟨y0, y1, y2, y3, y4, y5⟩, -⟩ := cells6 hF
        refine bodyPost_ret (v := .tuple #[.agg #[.int .i64 (n1 : Int), .int .i64 (n2 : Int), .bool sn, .int .i64 kk, .string dd, .string ss], .int .i64 0]) (by simp [results, Tryz.results36, go_sem, y0, y1, y2, y3, y4, y5]) rfl ?_
        exact ⟨⟨⟨(n1 : Int), (n2 : Int), sn, kk, dd, ss⟩, by rw [HT0.out]; rfl, fun h => absurd HT0.out h, fun _ => HRO.out.symm⟩, hFin⟩
      · have HT0 : Hid (rtC s.data.toList = 2) := by show _ = _; rw [HTV.out]; exact h0
        rw [h0]
        clear h0
        have HALL := Lib.hid (And.intro (heap6 J12.out.rz (.int .i64 0) (.int .i64 0) (.bool false) (.int .i64 0) (.string ⟨#[]⟩) (.string ⟨#[]⟩)) (bel6 J12.out.b (Nat.le_refl _) (.int .i64 0) (.int .i64 0) (.bool false) (.int .i64 0) (.string ⟨#[]⟩) (.string ⟨#[]⟩)))
        go_wp2
        generalize ((((((w12.setCell ⟨w.heap.size, 0, none⟩ (.int .i64 0)).setCell ⟨w.heap.size, 1, none⟩ (.int .i64 0)).setCell ⟨w.heap.size, 2, none⟩ (.bool false)).setCell ⟨w.heap.size, 3, none⟩ (.int .i64 0)).setCell ⟨w.heap.size, 4, none⟩ (.string ⟨#[]⟩)).setCell ⟨w.heap.size, 5, none⟩ (.string ⟨#[]⟩)) = wf at HALL ⊢
        obtain ⟨hF, hFin⟩ := HALL.out
        obtain ⟨⟨y0, y1, y2, y3, y4, y5⟩, -⟩ := cells6 hF
        refine bodyPost_ret (v := .tuple #[.agg #[.int .i64 0, .int .i64 0, .bool false, .int .i64 0, .string ⟨#[]⟩, .string ⟨#[]⟩], .int .i64 2]) (by simp [results, Tryz.results36, go_sem, y0, y1, y2, y3, y4, y5]) rfl ?_
        exact ⟨⟨zR, by rw [HT0.out]; rfl, fun _ => rfl, fun h => by rw [HT0.out] at h; cases h⟩, hFin⟩
    · have HTV := Lib.hid (HTE.out he)
      have HE := Lib.hid he
      have he0 : (((recR s.data.toList).e : Int) != 0) = true := by simpa using he
      clear he
      obtain ⟨⟨x0, x1, x2, x3, x4, x5⟩, u0, u1, u2, u3, u4, u5⟩ := cells6 J10.out.rz
      have hzz : w.heap.size < w11.heap.size := lt_of_heap J10.out.rz
      have hne : w.heap.size ≠ w1.heap.size := by omega
      have HALL := Lib.hid (And.intro (heap6 J10.out.rz (.int .i64 0) (.int .i64 0) (.bool false) (.int .i64 0) (.string ⟨#[]⟩) (.string ⟨#[]⟩)) (bel6 J10.out.b (Nat.le_refl _) (.int .i64 0) (.int .i64 0) (.bool false) (.int .i64 0) (.string ⟨#[]⟩) (.string ⟨#[]⟩)))
      go_wp2_with fail
      go_region
      all_goals go_wp2
      all_goals
        generalize ((((((w11.setCell ⟨w.heap.size, 0, none⟩ (.int .i64 0)).setCell ⟨w.heap.size, 1, none⟩ (.int .i64 0)).setCell ⟨w.heap.size, 2, none⟩ (.bool false)).setCell ⟨w.heap.size, 3, none⟩ (.int .i64 0)).setCell ⟨w.heap.size, 4, none⟩ (.string ⟨#[]⟩)).setCell ⟨w.heap.size, 5, none⟩ (.string ⟨#[]⟩)) = wf at HALL ⊢
        obtain ⟨hF, hFin⟩ := HALL.out
        obtain ⟨⟨y0, y1, y2, y3, y4, y5⟩, -⟩ := cells6 hF
        refine bodyPost_ret (v := .tuple #[.agg #[.int .i64 0, .int .i64 0, .bool false, .int .i64 0, .string ⟨#[]⟩, .string ⟨#[]⟩], .int .i64 ((recR s.data.toList).e : Int)]) (by simp [results, Tryz.results36, go_sem, y0, y1, y2, y3, y4, y5]) rfl ?_
        exact ⟨⟨zR, by rw [HTV.out]; rfl, fun _ => rfl, fun h => absurd (HTV.out.symm.trans h) HE.out⟩, hFin.drew⟩
end Go.Proofs.YtlpplnmmcgdooaaGreatDoor
