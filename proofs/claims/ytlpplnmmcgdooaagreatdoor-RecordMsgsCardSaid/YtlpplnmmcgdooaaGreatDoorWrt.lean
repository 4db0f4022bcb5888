/- text.Writer: pieces laid, as long as none is at fault. -/
import Derived.Test.YtlpplnmmcgdooaaGreatDoorRowA
namespace Go.Proofs.YtlpplnmmcgdooaaGreatDoor
open Go.RowKit Nb

/-- A writer at block b that has laid the bytes l. -/
def Wrt (B b : Nat) (l : List UInt8) (w : World) : Prop := Bld 76 [.nilIface] B b l w
theorem liesB_wrt : LiesB 76 3 := ⟨by kernel_rfl, by decide⟩
theorem Wrt.below {B b : Nat} {l : List UInt8} {w w' : World} (h : Wrt B b l w) (hb : Below w.heap.size w w') : Wrt B b l w' := Bld.below h hb
theorem Wrt.new (w : World) : Wrt w.heap.size w.heap.size [] (w.alloc (.cells #[.pointer none, .slice none 0 0, .nilIface] 76)) :=
  Or.inl ⟨Nat.le_refl _, .slice none 0 0, by show (w.heap.push _)[w.heap.size]? = _; simp, World.ownsRow_nil _ _ _ _, by simp [Value.ownBlock]⟩
set_option maxRecDepth 100000 in
theorem put_any (B b : Nat) (l : List UInt8) (piece s : ByteArray) (w : World) (h : Wrt B b l w) (hl : l.length + s.size ≤ 1000000000) (hB : B ≤ w.heap.size) :
    Calls Tryz.prog 76 #[.pointer (some ⟨b, 0, none⟩), .string piece, .string s, .int .i64 0] w fun e w' => e = .returned (.tuple #[]) ∧ Wrt B b (l ++ s.data.toList) w' ∧ Below B w w' ∧ KeepT b w w' := by
  have hf : w.cell? ⟨b, 2, none⟩ = some .nilIface := Bld.field h 0
  have HW := Lib.hid (WriteString_any 76 [.nilIface] B b l s w liesB_wrt h hl hB)
  clear h
  go_enter Tryz.func76, Tryz.ntmps76
  go_wp2_with (go_at_call 103; refine HW.out.mono ?_; rintro e w' ⟨rfl, h2, hb2, hk2⟩; have H2 := Lib.hid h2; have HB2 := Lib.hid hb2; have HK2 := Lib.hid hk2; clear h2 hb2 hk2)
  go_end0
  exact ⟨rfl, Or.inr H2.out, HB2.out, HK2.out⟩
set_option maxRecDepth 100000 in
theorem WText_any (B b : Nat) (l : List UInt8) (s : ByteArray) (w : World) (h : Wrt B b l w) (hl : l.length + s.size ≤ 900000000) (hB : B ≤ w.heap.size) :
    Calls Tryz.prog 39 #[.pointer (some ⟨b, 0, none⟩), .string s] w fun e w' => e = .returned (.tuple #[]) ∧ Wrt B b (l ++ textB s.data.toList) w' ∧ Below B w w' ∧ KeepT b w w' := by
  have h9 := numB_len s.size (by omega)
  have HP := Lib.hid (Put_any s.size w (by omega))
  have H := Lib.hid h
  obtain ⟨y, hy⟩ : ∃ y : ByteArray, y = ⟨(numB s.size).toArray⟩ := ⟨_, rfl⟩
  have hys : y.size ≤ 9 := by rw [hy, str_size]; exact h9
  rw [← hy] at HP
  obtain ⟨z, hz⟩ : ∃ z, y ++ s = z := ⟨_, rfl⟩
  have hzs : z.size ≤ 9 + s.size := by rw [← hz, ByteArray.size_append]; omega
  have HZ : Hid (z.data.toList = textB s.data.toList) := by
    have e0 : z.data.toList = textB s.data.toList := by rw [← hz, hy]; simp [textB]
    exact e0
  clear h hy h9
  go_enter Tryz.func39, Tryz.ntmps39
  go_wp2_with fail
  refine HP.out.mono ?_
  rintro e w1 ⟨rfl, hb1⟩
  have HW := Lib.hid (fun piece => put_any B b l piece z w1 (H.out.below hb1) (by omega) (Nat.le_trans hB hb1.size))
  have HB1 := Lib.hid hb1
  clear hb1
  go_wp2_with (go_at_call 76; refine (HW.out _).mono ?_; rintro e w' ⟨rfl, h2, hb2, hk2⟩; have H2 := Lib.hid h2; have HB2 := Lib.hid hb2; have HK2 := Lib.hid hk2; clear h2 hb2 hk2)
  go_end0
  exact ⟨rfl, by rw [← HZ.out]; exact H2.out, (HB1.out.mono hB).trans HB2.out, (KeepT.of_below HB1.out).trans HK2.out⟩
set_option maxRecDepth 100000 in
theorem WRow_any (B b : Nat) (l : List UInt8) (A : Option Addr) (c : Nat) (d : Array Int) (w : World) (h : Wrt B b l w) (hr : RdI w.heap.size w A d) (hd : LayN d) (hs : d.size ≤ 10000) (hl : l.length ≤ 900000000) (hB : B ≤ w.heap.size) :
    Calls Tryz.prog 40 #[.pointer (some ⟨b, 0, none⟩), .slice A d.size c] w fun e w' => e = .returned (.tuple #[]) ∧ Wrt B b (l ++ rowB (nats d)) w' ∧ Below B w w' ∧ KeepT b w w' := by
  have h9 := numB_len d.size (by omega)
  have hfl := flat_len (nats d) hd.nats
  rw [nats_len] at hfl
  have HP := Lib.hid (Row_any A c d w hr hd hs)
  have H := Lib.hid h
  obtain ⟨y, hy⟩ : ∃ y : ByteArray, y = ⟨(rowB (nats d)).toArray⟩ := ⟨_, rfl⟩
  have hys : y.size ≤ 100000 := by rw [hy, str_size]; unfold rowB; rw [List.length_append, nats_len]; omega
  rw [← hy] at HP
  have HY : Hid (y.data.toList = rowB (nats d)) := by
    have e0 : y.data.toList = rowB (nats d) := by rw [hy]
    exact e0
  clear h hy h9 hfl hr hd
  go_enter Tryz.func40, Tryz.ntmps40
  go_wp2_with fail
  refine HP.out.mono ?_
  rintro e w1 ⟨rfl, hb1⟩
  have HW := Lib.hid (fun piece => put_any B b l piece y w1 (H.out.below hb1) (by omega) (Nat.le_trans hB hb1.size))
  have HB1 := Lib.hid hb1
  clear hb1
  go_wp2_with (go_at_call 76; refine (HW.out _).mono ?_; rintro e w' ⟨rfl, h2, hb2, hk2⟩; have H2 := Lib.hid h2; have HB2 := Lib.hid hb2; have HK2 := Lib.hid hk2; clear h2 hb2 hk2)
  go_end0
  exact ⟨rfl, by rw [← HY.out]; exact H2.out, (HB1.out.mono hB).trans HB2.out, (KeepT.of_below HB1.out).trans HK2.out⟩
theorem row_cell {w : World} {g : Nat} {d : Array Int} (h : w.heap[g]? = some (.cells (d.map encI) 3 (0, 0))) {k : Nat} (hk : k < d.size) : w.cell? ⟨g, k, none⟩ = some (.int .i64 d[k]!) := by
  rw [heap_cell h, Array.getElem?_map, Array.getElem?_eq_getElem hk, getElem!_pos d k hk]; rfl
set_option maxRecDepth 100000 in
set_option maxHeartbeats 1000000 in
theorem WNum_any (B b : Nat) (l : List UInt8) (g c : Nat) (d : Array Int) (w : World) (h : Wrt B b l w) (hg : w.heap[g]? = some (.cells (d.map encI) 3 (0, 0))) (hd : LayN d) (hs : d.size ≤ 10000) (hl : l.length ≤ 900000000) (hB : B ≤ w.heap.size) (hne : g ≠ b) :
    Calls Tryz.prog 38 #[.pointer (some ⟨b, 0, none⟩), .slice (some ⟨g, 0, none⟩) d.size c] w fun e w' => e = .returned (.tuple #[]) ∧ Wrt B b (l ++ (nats d).flatMap numB) w' ∧ Below B w w' ∧ KeepT b w w' := by
  have H := Lib.hid h
  have HG := Lib.hid hg
  have HD := Lib.hid hd
  clear h hg hd
  go_enter Tryz.func38, Tryz.ntmps38
  go_wp2
  go_loopw [13] (fun i wr => ∃ k : Nat, i = .int .i64 k ∧ k ≤ d.size ∧ Hid (Wrt B b (l ++ ((nats d).take k).flatMap numB) wr) ∧ Hid (Below B w wr) ∧ Hid (KeepT b w wr)) (fun i _ => d.size - (intOf i).toNat)
  case atStart => exact ⟨0, rfl, Nat.zero_le _, Lib.hid (by simpa using H.out), Lib.hid (Below.refl B w), Lib.hid (KeepT.refl b w)⟩
  case round =>
    obtain ⟨k, rfl, hk, hX, hBe, hKe⟩ := hrel
    by_cases hlt : k < d.size
    · have kz : (k : Int) < (d.size : Int) := by omega
      have hc := row_cell (hKe.out _ _ _ _ hne (by decide) HG.out) hlt
      have hx := HD.out k hlt
      obtain ⟨n, hn⟩ : ∃ n : Nat, d[k]! = (n : Int) := ⟨d[k]!.toNat, by omega⟩
      rw [hn] at hc
      have hn2 : n ≤ 9223372036854775807 := by omega
      have HN : Hid (d[k]!.toNat = n) := by show _ = _; rw [hn]; simp
      have h9 := numB_len n hn2
      have htl := take_len d HD.out k
      have hsz := hBe.out.size
      have HP := Lib.hid (Put_any n wr hn2)
      have HW := Lib.hid (fun (piece : ByteArray) (w1 : World) (hb1 : Below wr.heap.size wr w1) => put_any B b _ piece ⟨(numB n).toArray⟩ w1 (hX.out.below hb1) (by rw [str_size, List.length_append]; omega) (Nat.le_trans (Nat.le_trans hB hsz) hb1.size))
      clear hx hn htl hn2 h9
      go_wp2_with (first | (go_at_call 77; refine HP.out.mono ?_; rintro e w1 ⟨rfl, hb1⟩; have HB1 := Lib.hid hb1; clear hb1) | (go_at_call 76; refine (HW.out _ _ HB1.out).mono ?_; rintro e w' ⟨rfl, h2, hb2, hk2⟩; have H2 := Lib.hid h2; have HB2 := Lib.hid hb2; have HK2 := Lib.hid hk2; clear h2 hb2 hk2))
      go_roundw
      case rel =>
        refine ⟨k + 1, by go_num, by omega, ?_, Lib.hid ((hBe.out.trans (HB1.out.mono (Nat.le_trans hB hsz))).trans HB2.out), Lib.hid ((hKe.out.trans (KeepT.of_below HB1.out)).trans HK2.out)⟩
        have := H2.out
        rw [nats_take d k hlt, HN.out]
        exact Lib.hid (by simpa using this)
      case measure => simp [intOf]; omega
    · obtain rfl : k = d.size := by omega
      rw [nats_all] at hX
      have hlt' : ¬ (d.size : Int) < (d.size : Int) := by omega
      go_wp2
      go_end0
      exact ⟨rfl, hX.out, hBe.out, hKe.out⟩
set_option maxRecDepth 100000 in
theorem WDone_any (B b : Nat) (l : List UInt8) (w : World) (h : Wrt B b l w) (h0 : l ≠ []) :
    Calls Tryz.prog 41 #[.pointer (some ⟨b, 0, none⟩)] w fun e w' => e = .returned (.tuple #[.string ⟨l.toArray⟩, .nilIface]) ∧ Below B w w' := by
  have hf : w.cell? ⟨b, 2, none⟩ = some .nilIface := Bld.field h 0
  have HW := Lib.hid (String_any 76 [.nilIface] B b l w h h0)
  clear h h0
  go_enter Tryz.func41, Tryz.ntmps41
  go_wp2_with (go_at_call 79; refine HW.out.mono ?_; rintro e w' ⟨rfl, hb2⟩; have HB2 := Lib.hid hb2; clear hb2)
  go_ret2
  exact ⟨rfl, HB2.out⟩
end Go.Proofs.YtlpplnmmcgdooaaGreatDoor
