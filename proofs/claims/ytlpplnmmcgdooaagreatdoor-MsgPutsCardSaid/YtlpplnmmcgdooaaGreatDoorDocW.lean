/- The document's writers (rubatoref06), as plain data, as long as nothing is at fault. -/
import Derived.Test.YtlpplnmmcgdooaaGreatDoorDocR
import Derived.Test.YtlpplnmmcgdooaaGreatDoorErrC
import Derived.Test.YtlpplnmmcgdooaaGreatDoorRowB
namespace Go.Proofs.YtlpplnmmcgdooaaGreatDoor
open Go.RowKit Nb

/-- What was laid, with no fault: its three cells. -/
def outV (x : ByteArray) : Value := .agg #[.string x, .string ⟨#[]⟩, .int .i64 0]
theorem heap3 {w : World} {g : Nat} {a b c : Value} {T : TypeId} (h : w.heap[g]? = some (.cells #[a, b, c] T (0, 0))) (a' b' c' : Value) :
    (((w.setCell ⟨g, 0, none⟩ a').setCell ⟨g, 1, none⟩ b').setCell ⟨g, 2, none⟩ c').heap[g]? = some (.cells #[a', b', c'] T (0, 0)) := by
  rw [heap_set (heap_set (heap_set h 0 a') 1 b') 2 c']; rfl
theorem heap3_far {w : World} {g i : Nat} (hi : i ≠ g) (a' b' c' : Value) : (((w.setCell ⟨g, 0, none⟩ a').setCell ⟨g, 1, none⟩ b').setCell ⟨g, 2, none⟩ c').heap[i]? = w.heap[i]? := by
  rw [Below.heap_setCell _ _ _ _ hi, Below.heap_setCell _ _ _ _ hi, Below.heap_setCell _ _ _ _ hi]
theorem heap_al {w : World} {g : Nat} {o : Obj} (h : w.heap[g]? = some o) (x : Obj) : (w.alloc x).heap[g]? = some o := (Below.heap_alloc w x g (lt_of_heap h)).trans h
theorem cells3 {w : World} {g : Nat} {a b c : Value} {T : TypeId} (h : w.heap[g]? = some (.cells #[a, b, c] T (0, 0))) :
    w.cell? ⟨g, 0, none⟩ = some a ∧ w.cell? ⟨g, 1, none⟩ = some b ∧ w.cell? ⟨g, 2, none⟩ = some c ∧ w.frozen? ⟨g, 0, none⟩ = false ∧ w.frozen? ⟨g, 1, none⟩ = false ∧ w.frozen? ⟨g, 2, none⟩ = false :=
  ⟨by rw [heap_cell h]; rfl, by rw [heap_cell h]; rfl, by rw [heap_cell h]; rfl, Lib.frozen_of_heap h 0, Lib.frozen_of_heap h 1, Lib.frozen_of_heap h 2⟩
theorem bel3 {w a : World} {g : Nat} (h : Below w.heap.size w a) (hg : w.heap.size ≤ g) (x y z : Value) : Below w.heap.size w (((a.setCell ⟨g, 0, none⟩ x).setCell ⟨g, 1, none⟩ y).setCell ⟨g, 2, none⟩ z) :=
  ((h.setCell (p := ⟨g, 0, none⟩) hg x).setCell (p := ⟨g, 1, none⟩) hg y).setCell (p := ⟨g, 2, none⟩) hg z
theorem Lay_any (x s piece : ByteArray) (w : World) (hl : x.size + s.size ≤ 1000000000) :
    Calls Tryz.prog 81 #[.agg #[.string x, .string ⟨#[]⟩, .int .i64 0], .string piece, .string s, .int .i64 0] w fun e w' => e = .returned (.agg #[.string (x ++ s), .string ⟨#[]⟩, .int .i64 0]) ∧
      w' = (w.alloc (.cells #[.string (x ++ s), .string ⟨#[]⟩, .int .i64 0] 84)).alloc (.cells #[.string (x ++ s), .string ⟨#[]⟩, .int .i64 0] 84) := by
  go_enter Tryz.func81, Tryz.ntmps81
  go_wp2
  exact bodyPost_ret (v := .agg #[.string (x ++ s), .string ⟨#[]⟩, .int .i64 0]) (by simp [results, Tryz.results81, go_sem]) rfl ⟨rfl, rfl⟩
theorem two_out (w : World) (x : ByteArray) : ((w.alloc (.cells #[.string x, .string ⟨#[]⟩, .int .i64 0] 84)).alloc (.cells #[.string ⟨#[]⟩, .string ⟨#[]⟩, .int .i64 0] 84)).heap[w.heap.size]? = some (.cells #[.string x, .string ⟨#[]⟩, .int .i64 0] 84 (0, 0)) ∧
    ((w.alloc (.cells #[.string x, .string ⟨#[]⟩, .int .i64 0] 84)).alloc (.cells #[.string ⟨#[]⟩, .string ⟨#[]⟩, .int .i64 0] 84)).heap[w.heap.size + 1]? = some (.cells #[.string ⟨#[]⟩, .string ⟨#[]⟩, .int .i64 0] 84 (0, 0)) := by
  constructor
  · exact heap_al (by show (w.heap.push _)[w.heap.size]? = _; simp) _
  · show ((w.heap.push _).push _)[w.heap.size + 1]? = _
    rw [Array.getElem?_push, if_pos (by simp)]
set_option maxRecDepth 100000 in
set_option maxHeartbeats 1000000 in
theorem LayText_any (x s : ByteArray) (w : World) (hl : x.size + s.size ≤ 900000000) :
    Calls Tryz.prog 43 #[outV x, .string s] w fun e w' => e = .returned (outV (x ++ ⟨(textB s.data.toList).toArray⟩)) ∧ Below w.heap.size w w' := by
  unfold outV
  have h9 := numB_len s.size (by omega)
  obtain ⟨t0, t1⟩ := two_out w x
  have HT0 := Lib.hid t0
  have HT1 := Lib.hid t1
  have HP := Lib.hid (rPut_any s.size ((w.alloc (.cells #[.string x, .string ⟨#[]⟩, .int .i64 0] 84)).alloc (.cells #[.string ⟨#[]⟩, .string ⟨#[]⟩, .int .i64 0] 84)) (by omega))
  obtain ⟨y, hy⟩ : ∃ y : ByteArray, y = ⟨(numB s.size).toArray⟩ := ⟨_, rfl⟩
  have hys : y.size ≤ 9 := by rw [hy, str_size]; exact h9
  rw [← hy] at HP
  obtain ⟨z, hz⟩ : ∃ z, y ++ s = z := ⟨_, rfl⟩
  have hzs : z.size ≤ 9 + s.size := by rw [← hz, ByteArray.size_append]; omega
  have HZ : Hid (z = ⟨(textB s.data.toList).toArray⟩) := by
    have e0 : z = ⟨(textB s.data.toList).toArray⟩ := by
      rw [← hz, hy]
      apply ByteArray.ext
      simp [textB]
    exact e0
  clear hy h9 t0 t1
  go_enter Tryz.func43, Tryz.ntmps43
  go_wp2_with fail
  refine HP.out.mono ?_
  rintro e w1 ⟨rfl, hb1⟩
  have q0 := (hb1.block w.heap.size (lt_of_heap HT0.out)).trans HT0.out
  have q1 := (hb1.block (w.heap.size + 1) (lt_of_heap HT1.out)).trans HT1.out
  obtain ⟨b0, b1, b2, _, _, _⟩ := cells3 q0
  obtain ⟨d0, d1, d2, g0, g1, g2⟩ := cells3 q1
  have hz2 : w.heap.size + 1 < w1.heap.size := lt_of_heap q1
  have hz0 : w.heap.size < w1.heap.size := by omega
  have Q1 := Lib.hid q1
  have HB1 := Lib.hid (belStep (belAlloc (bel1 w _) _) hb1)
  clear hb1 q0 q1
  have hxz : x.size + z.size ≤ 1000000000 := by omega
  go_wp2_with (go_at_call 81; refine (Lay_any x z _ _ hxz).mono ?_; rintro e w' ⟨rfl, rfl⟩)
  obtain ⟨k0, k1, k2, _, _, _⟩ := cells3 (heap_al (heap_al (heap3 Q1.out (.string (x ++ z)) (.string ⟨#[]⟩) (.int .i64 0)) (.cells #[.string (x ++ z), .string ⟨#[]⟩, .int .i64 0] 84)) (.cells #[.string (x ++ z), .string ⟨#[]⟩, .int .i64 0] 84))
  refine bodyPost_ret (v := .agg #[.string (x ++ z), .string ⟨#[]⟩, .int .i64 0]) (by simp [results, Tryz.results43, go_sem, k0, k1, k2]) rfl ⟨by rw [HZ.out], ?_⟩
  exact belAlloc (belAlloc (bel3 HB1.out (by omega) _ _ _) _) _
set_option maxRecDepth 100000 in
set_option maxHeartbeats 1000000 in
theorem LayRow_any (x : ByteArray) (A : Option Addr) (c : Nat) (d : Array Int) (w : World) (h : RdI w.heap.size w A d) (hd : LayN d) (hs : d.size ≤ 10000) (hl : x.size ≤ 900000000) :
    Calls Tryz.prog 44 #[outV x, .slice A d.size c] w fun e w' => e = .returned (outV (x ++ ⟨(rowB (nats d)).toArray⟩)) ∧ Below w.heap.size w w' := by
  unfold outV
  have h9 := numB_len d.size (by omega)
  have hfl := flat_len (nats d) hd.nats
  rw [nats_len] at hfl
  obtain ⟨t0, t1⟩ := two_out w x
  have HT0 := Lib.hid t0
  have HT1 := Lib.hid t1
  have HP := Lib.hid (rRow_any A c d ((w.alloc (.cells #[.string x, .string ⟨#[]⟩, .int .i64 0] 84)).alloc (.cells #[.string ⟨#[]⟩, .string ⟨#[]⟩, .int .i64 0] 84)) (h.next (belAlloc (bel1 w _) _)) hd hs)
  obtain ⟨z, hy⟩ : ∃ y : ByteArray, y = ⟨(rowB (nats d)).toArray⟩ := ⟨_, rfl⟩
  have hzs : z.size ≤ 100000 := by rw [hy, str_size]; unfold rowB; rw [List.length_append, nats_len]; omega
  rw [← hy] at HP
  rw [← hy]
  clear hy h9 t0 t1 h hd hfl
  go_enter Tryz.func44, Tryz.ntmps44
  go_wp2_with fail
  refine HP.out.mono ?_
  rintro e w1 ⟨rfl, hb1⟩
  have q0 := (hb1.block w.heap.size (lt_of_heap HT0.out)).trans HT0.out
  have q1 := (hb1.block (w.heap.size + 1) (lt_of_heap HT1.out)).trans HT1.out
  obtain ⟨b0, b1, b2, _, _, _⟩ := cells3 q0
  obtain ⟨d0, d1, d2, g0, g1, g2⟩ := cells3 q1
  have hz2 : w.heap.size + 1 < w1.heap.size := lt_of_heap q1
  have hz0 : w.heap.size < w1.heap.size := by omega
  have Q1 := Lib.hid q1
  have HB1 := Lib.hid (belStep (belAlloc (bel1 w _) _) hb1)
  clear hb1 q0 q1
  have hxz : x.size + z.size ≤ 1000000000 := by omega
  go_wp2_with (go_at_call 81; refine (Lay_any x z _ _ hxz).mono ?_; rintro e w' ⟨rfl, rfl⟩)
  obtain ⟨k0, k1, k2, _, _, _⟩ := cells3 (heap_al (heap_al (heap3 Q1.out (.string (x ++ z)) (.string ⟨#[]⟩) (.int .i64 0)) (.cells #[.string (x ++ z), .string ⟨#[]⟩, .int .i64 0] 84)) (.cells #[.string (x ++ z), .string ⟨#[]⟩, .int .i64 0] 84))
  refine bodyPost_ret (v := .agg #[.string (x ++ z), .string ⟨#[]⟩, .int .i64 0]) (by simp [results, Tryz.results44, go_sem, k0, k1, k2]) rfl ⟨rfl, ?_⟩
  exact belAlloc (belAlloc (bel3 HB1.out (by omega) _ _ _) _) _
/-- Nums, at a round's head. -/
def NumsR (x : ByteArray) (d : Array Int) (w : World) (iv : Value) (wr : World) : Prop := ∃ (k : Nat) (y : ByteArray), iv = .int .i64 (k : Int) ∧ k ≤ d.size ∧ y.data.toList = x.data.toList ++ ((nats d).take k).flatMap numB ∧
  wr.heap[w.heap.size]? = some (.cells #[.string y, .string ⟨#[]⟩, .int .i64 0] 84 (0, 0)) ∧ wr.heap[w.heap.size + 1]? = some (.cells #[.string ⟨#[]⟩, .string ⟨#[]⟩, .int .i64 0] 84 (0, 0)) ∧ Below w.heap.size w wr
set_option maxRecDepth 100000 in
set_option maxHeartbeats 1000000 in
theorem Nums_any (x : ByteArray) (A : Option Addr) (c : Nat) (d : Array Int) (w : World) (h : RdI w.heap.size w A d) (hd : LayN d) (hs : d.size ≤ 10000) (hl : x.size ≤ 900000000) :
    Calls Tryz.prog 42 #[outV x, .slice A d.size c] w fun e w' => e = .returned (outV (x ++ ⟨((nats d).flatMap numB).toArray⟩)) ∧ Below w.heap.size w w' := by
  unfold outV
  have HR := Lib.hid h
  have HD := Lib.hid hd
  obtain ⟨t0, t1⟩ := two_out w x
  have HT0 := Lib.hid t0
  have HT1 := Lib.hid t1
  clear h hd t0 t1
  go_enter Tryz.func42, Tryz.ntmps42
  go_wp2
  go_loopw [5] (fun i wr => NumsR x d w i wr) (fun i _ => d.size - (intOf i).toNat)
  case atStart => exact ⟨0, x, rfl, Nat.zero_le _, by simp, HT0.out, HT1.out, belAlloc (bel1 w _) _⟩
  case round =>
    obtain ⟨k, y, rfl, hk, hy, hq0, hq1, hB⟩ := hrel
    have HY := Lib.hid hy
    have HQ0 := Lib.hid hq0
    have HQ1 := Lib.hid hq1
    have HB := Lib.hid hB
    have htl := take_len d HD.out k
    have hys : y.size ≤ 900000000 + 9 * k := by
      have e1 : y.size = y.data.toList.length := by simp
      have e2 : x.size = x.data.toList.length := by simp
      rw [e1, hy, List.length_append]; omega
    clear hy hq0 hq1 hB htl
    by_cases hlt : k < d.size
    · have kz : (k : Int) < (d.size : Int) := by omega
      obtain ⟨b, off, rfl, hbl, hc⟩ := (HR.out.below HB.out).at_ hlt
      have hx := HD.out k hlt
      obtain ⟨n, hn⟩ : ∃ n : Nat, d[k]! = (n : Int) := ⟨d[k]!.toNat, by omega⟩
      rw [hn] at hc
      have hn2 : n ≤ 9223372036854775807 := by omega
      have HN : Hid (d[k]!.toNat = n) := by show _ = _; rw [hn]; simp
      have hl9 := numB_len n hn2
      have HP := Lib.hid (rPut_any n wr hn2)
      obtain ⟨z, hz⟩ : ∃ y : ByteArray, y = ⟨(numB n).toArray⟩ := ⟨_, rfl⟩
      have hzs : z.size ≤ 9 := by rw [hz, str_size]; exact hl9
      rw [← hz] at HP
      have HZ : Hid ((y ++ z).data.toList = y.data.toList ++ numB n) := by
        have e0 : (y ++ z).data.toList = y.data.toList ++ numB n := by rw [hz]; simp
        exact e0
      clear hx hn hn2 hz hl9
      go_wp2_with fail
      refine HP.out.mono ?_
      rintro e w1 ⟨rfl, hb1⟩
      have q0 := (hb1.block w.heap.size (lt_of_heap HQ0.out)).trans HQ0.out
      have q1 := (hb1.block (w.heap.size + 1) (lt_of_heap HQ1.out)).trans HQ1.out
      obtain ⟨b0, b1, b2, g0, g1, g2⟩ := cells3 q0
      have hz2 : w.heap.size + 1 < w1.heap.size := lt_of_heap q1
      have hz0 : w.heap.size < w1.heap.size := by omega
      have Q0 := Lib.hid q0
      have Q1 := Lib.hid q1
      have HB1 := Lib.hid (belStep HB.out hb1)
      clear hb1 q0 q1
      have hxz : y.size + z.size ≤ 1000000000 := by omega
      go_wp2_with (go_at_call 81; refine (Lay_any y z _ _ hxz).mono ?_; rintro e w' ⟨rfl, rfl⟩)
      go_roundw
      case rel =>
        refine ⟨k + 1, y ++ z, by go_num, by omega, ?_, heap_al (heap_al (heap3 Q0.out _ _ _) _) _, heap_al (heap_al ((heap3_far (by omega) _ _ _).trans Q1.out) _) _, belAlloc (belAlloc (bel3 HB1.out (Nat.le_refl _) _ _ _) _) _⟩
        rw [HZ.out, HY.out, nats_take d k hlt, HN.out]
        simp
      case measure => simp [intOf]; omega
    · have hlt' : decide ((k : Int) < (d.size : Int)) = false := by simp; omega
      obtain ⟨b0, b1, b2, _, _, _⟩ := cells3 HQ0.out
      obtain ⟨d0, d1, d2, g0, g1, g2⟩ := cells3 HQ1.out
      have hz2 : w.heap.size + 1 < wr.heap.size := lt_of_heap HQ1.out
      have HE : Hid (y = x ++ ⟨((nats d).flatMap numB).toArray⟩) := by
        have e0 : y = x ++ ⟨((nats d).flatMap numB).toArray⟩ := by
          apply ByteArray.ext
          apply Array.ext'
          have e1 : k = d.size := by omega
          rw [HY.out, e1, nats_all]
          simp
        exact e0
      go_wp2
      obtain ⟨k0, k1, k2, _, _, _⟩ := cells3 (heap3 HQ1.out (.string y) (.string ⟨#[]⟩) (.int .i64 0))
      refine bodyPost_ret (v := .agg #[.string y, .string ⟨#[]⟩, .int .i64 0]) (by simp [results, Tryz.results42, go_sem, k0, k1, k2]) rfl ⟨by rw [HE.out], ?_⟩
      exact bel3 HB.out (by omega) _ _ _
end Go.Proofs.YtlpplnmmcgdooaaGreatDoor
