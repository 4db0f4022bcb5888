/- num.Row and the document's Row: the bytes of a row. num.Unrow and the document's Unrow: what is read as a row. -/
import Derived.Test.YtlpplnmmcgdooaaGreatDoorBld
import Derived.Test.YtlpplnmmcgdooaaGreatDoorIntR
import Derived.Test.YtlpplnmmcgdooaaGreatDoorNumP
import Derived.Test.YtlpplnmmcgdooaaGreatDoorNumA
namespace Go.Proofs.YtlpplnmmcgdooaaGreatDoor
open Go.RowKit Nb

/-- The numbers of a row. -/
def nats (d : Array Int) : List Nat := d.toList.map Int.toNat
/-- Numbers that may be laid. -/
def LayN (d : Array Int) : Prop := ∀ i, i < d.size → 0 ≤ d[i]! ∧ d[i]! ≤ 9223372036854775807
theorem nats_len (d : Array Int) : (nats d).length = d.size := by simp [nats]
theorem nats_take (d : Array Int) (k : Nat) (h : k < d.size) : (nats d).take (k + 1) = (nats d).take k ++ [d[k]!.toNat] := by
  rw [List.take_succ_eq_append_getElem (by rw [nats_len]; exact h)]
  congr 2
  simp [nats, getElem!_pos d k h]
theorem nats_all (d : Array Int) : (nats d).take d.size = nats d := List.take_of_length_le (by rw [nats_len]; exact Nat.le_refl _)
theorem LayN.nats {d : Array Int} (h : LayN d) : ∀ n ∈ nats d, n ≤ 9223372036854775807 := by
  intro n hn
  simp only [Go.Proofs.YtlpplnmmcgdooaaGreatDoor.nats, List.mem_map, Array.mem_toList_iff] at hn
  obtain ⟨x, hx, rfl⟩ := hn
  obtain ⟨i, hi, rfl⟩ := Array.getElem_of_mem hx
  have := h i hi
  rw [getElem!_pos d i hi] at this
  omega
theorem flat_len (l : List Nat) (h : ∀ n ∈ l, n ≤ 9223372036854775807) : (l.flatMap numB).length ≤ 9 * l.length := by
  induction l with
  | nil => simp
  | cons n l ih =>
    have h1 := numB_len n (h n (by simp))
    have h2 := ih (fun x hx => h x (by simp [hx]))
    rw [List.flatMap_cons, List.length_append, List.length_cons]; omega
theorem take_len (d : Array Int) (h : LayN d) (k : Nat) : (((nats d).take k).flatMap numB).length ≤ 9 * k := by
  have h1 := flat_len ((nats d).take k) (fun n hn => h.nats n (List.mem_of_mem_take hn))
  have h2 := List.length_take_le k (nats d)
  omega
/-- num.Row's closure. -/
theorem Row1_any (n : Nat) (B b : Nat) (l : List UInt8) (w : World) (hn : n ≤ 9223372036854775807) (h : Bld 74 [] B b l w) (hl : l.length ≤ 900000) (hB : B ≤ w.heap.size) :
    Calls Tryz.prog 105 #[.int .i64 n, .pointer (some ⟨b, 0, none⟩)] w fun e w' => e = .returned (.int .i64 0) ∧ Bld 74 [] B b (l ++ numB n) w' ∧ Below B w w' := by
  have HP := Lib.hid (Put_any n w hn)
  have H := Lib.hid h
  have h9 := numB_len n hn
  clear h
  go_enter Tryz.func105, Tryz.ntmps105
  go_wp2_with fail
  refine HP.out.mono ?_
  rintro e w1 ⟨rfl, hb1⟩
  have HW := Lib.hid (WriteString_any 74 [] B b l ⟨(numB n).toArray⟩ w1 liesB_bare (H.out.below hb1) (by rw [str_size]; omega) (Nat.le_trans hB hb1.size))
  have HB1 := Lib.hid hb1
  clear hb1
  go_wp2_with fail
  refine HW.out.mono ?_
  rintro e w2 ⟨rfl, h2, hb2, _⟩
  have H2 := Lib.hid h2
  have HB2 := Lib.hid hb2
  clear h2 hb2
  go_wp2
  go_ret
  exact ⟨rfl, Or.inr (by have := H2.out; simpa using this), (HB1.out.mono hB).trans HB2.out⟩
set_option maxRecDepth 100000 in
set_option maxHeartbeats 1000000 in
theorem Row_any (A : Option Addr) (c : Nat) (d : Array Int) (w : World) (h : RdI w.heap.size w A d) (hd : LayN d) (hs : d.size ≤ 10000) :
    Calls Tryz.prog 78 #[.slice A d.size c] w fun e w' => e = .returned (.tuple #[.string ⟨(rowB (nats d)).toArray⟩, .int .i64 0]) ∧ Below w.heap.size w w' := by
  have HR := Lib.hid h
  have HD := Lib.hid hd
  have h9 := numB_len d.size (by omega)
  have hB0 : Bld 74 [] w.heap.size w.heap.size [] (w.alloc (.cells #[.pointer none, .slice none 0 0] 74)) :=
    Or.inl ⟨Nat.le_refl _, .slice none 0 0, by show (w.heap.push _)[w.heap.size]? = _; simp, World.ownsRow_nil _ _ _ _, by simp [Value.ownBlock]⟩
  have H1 := Lib.hid (Row1_any d.size w.heap.size w.heap.size [] (w.alloc (.cells #[.pointer none, .slice none 0 0] 74)) (by omega) hB0 (by simp) (by simp))
  clear h hd hB0
  go_enter Tryz.func78, Tryz.ntmps78
  go_wp2_with fail
  refine H1.out.mono ?_
  rintro e w1 ⟨rfl, h1, hb1⟩
  have HX1 := Lib.hid h1
  have HB1 := Lib.hid ((bel1 w (.cells #[.pointer none, .slice none 0 0] 74)).trans hb1)
  clear h1 hb1 H1
  go_wp2
  go_loopw [6, 16] (fun e i wr => ∃ k : Nat, i = .int .i64 k ∧ e = .int .i64 0 ∧ k ≤ d.size ∧ Hid (Bld 74 [] w.heap.size w.heap.size (numB d.size ++ ((nats d).take k).flatMap numB) wr) ∧ Hid (Below w.heap.size w wr)) (fun _ i _ => d.size - (intOf i).toNat)
  case atStart => exact ⟨0, rfl, rfl, Nat.zero_le _, by have := HX1.out; exact Lib.hid (by simpa using this), HB1.out⟩
  case round =>
    obtain ⟨k, rfl, rfl, hk, hX, hB⟩ := hrel
    by_cases hlt : k < d.size
    · have kz : (k : Int) < (d.size : Int) := by omega
      obtain ⟨b, off, rfl, hbl, hc⟩ := (HR.out.below hB.out).at_ hlt
      have hx := HD.out k hlt
      obtain ⟨n, hn⟩ : ∃ n : Nat, d[k]! = (n : Int) := ⟨d[k]!.toNat, by omega⟩
      rw [hn] at hc
      have hn2 : n ≤ 9223372036854775807 := by omega
      have HN : Hid (d[k]!.toNat = n) := by show _ = _; rw [hn]; simp
      have htl := take_len d HD.out k
      have H3 := Lib.hid (Row1_any n w.heap.size w.heap.size _ wr hn2 hX.out (by rw [List.length_append]; omega) hB.out.size)
      clear hx hn htl hn2
      go_wp2_with (go_at_call 105; refine H3.out.mono ?_; rintro e w' ⟨rfl, h4, hb4⟩; have HX4 := Lib.hid h4; have HB4 := Lib.hid hb4; clear h4 hb4)
      go_roundw
      case rel =>
        refine ⟨k + 1, by go_num, rfl, by omega, ?_, hB.out.trans HB4.out⟩
        have := HX4.out
        rw [nats_take d k hlt, HN.out]
        exact Lib.hid (by simpa using this)
      case measure => simp [intOf]; omega
    · obtain rfl : k = d.size := by omega
      rw [nats_all] at hX
      have hlt' : ¬ (d.size : Int) < (d.size : Int) := by omega
      have H5 := Lib.hid (String_any 74 [] w.heap.size w.heap.size (rowB (nats d)) wr (by have := hX.out; unfold rowB; rw [nats_len]; exact this) (by
        intro e
        have h1 : (rowB (nats d)).length = 0 := by rw [e]; rfl
        have h2 := numB_pos (nats d).length
        unfold rowB at h1
        rw [List.length_append] at h1
        omega))
      go_wp2_with (go_at_call 79; refine H5.out.mono ?_; rintro e w' ⟨rfl, hb5⟩; have HB5 := Lib.hid hb5; clear hb5)
      go_ret2
      exact ⟨rfl, hB.out.trans HB5.out⟩
/-- The document's Row, at a round's head. -/
def RowR (d : Array Int) (w : World) (ov iv : Value) (wr : World) : Prop := ∃ (k : Nat) (x : ByteArray), iv = .int .i64 (k : Int) ∧ ov = .string x ∧ k ≤ d.size ∧ x.data.toList = numB d.size ++ ((nats d).take k).flatMap numB ∧ Below w.heap.size w wr
set_option maxRecDepth 100000 in
set_option maxHeartbeats 1000000 in
theorem rRow_any (A : Option Addr) (c : Nat) (d : Array Int) (w : World) (h : RdI w.heap.size w A d) (hd : LayN d) (hs : d.size ≤ 10000) :
    Calls Tryz.prog 82 #[.slice A d.size c] w fun e w' => e = .returned (.tuple #[.string ⟨(rowB (nats d)).toArray⟩, .int .i64 0]) ∧ Below w.heap.size w w' := by
  have HR := Lib.hid h
  have HD := Lib.hid hd
  have h9 := numB_len d.size (by omega)
  have HP := Lib.hid (rPut_any d.size w (by omega))
  clear h hd
  go_enter Tryz.func82, Tryz.ntmps82
  go_wp2_with fail
  refine HP.out.mono ?_
  rintro e w1 ⟨rfl, hb1⟩
  have HB1 := Lib.hid hb1
  clear hb1
  go_wp2
  go_loopw [4, 6] (fun o i wr => RowR d w o i wr) (fun _ i _ => d.size - (intOf i).toNat)
  case atStart => exact ⟨0, _, rfl, rfl, Nat.zero_le _, by simp, HB1.out⟩
  case round =>
    obtain ⟨k, x, rfl, rfl, hk, hx, hB⟩ := hrel
    have HX := Lib.hid hx
    have HB := Lib.hid hB
    have htl := take_len d HD.out k
    have hxs : x.size ≤ 9 + 9 * k := by
      have e1 : x.size = x.data.toList.length := by simp
      rw [e1, hx, List.length_append]; omega
    clear hx hB htl
    by_cases hlt : k < d.size
    · have kz : (k : Int) < (d.size : Int) := by omega
      obtain ⟨b, off, rfl, hbl, hc⟩ := (HR.out.below HB.out).at_ hlt
      have hx := HD.out k hlt
      obtain ⟨n, hn⟩ : ∃ n : Nat, d[k]! = (n : Int) := ⟨d[k]!.toNat, by omega⟩
      rw [hn] at hc
      have hn2 : n ≤ 9223372036854775807 := by omega
      have HN : Hid (d[k]!.toNat = n) := by show _ = _; rw [hn]; simp
      have H3 := Lib.hid (rPut_any n wr hn2)
      have hl9 := numB_len n hn2
      obtain ⟨y, hy⟩ : ∃ y : ByteArray, y = ⟨(numB n).toArray⟩ := ⟨_, rfl⟩
      have hys : y.size ≤ 9 := by rw [hy, str_size]; exact hl9
      rw [← hy] at H3
      obtain ⟨z, hz⟩ : ∃ z, x ++ y = z := ⟨_, rfl⟩
      have HZ : Hid (z.data.toList = x.data.toList ++ numB n) := by
        have e0 : z.data.toList = x.data.toList ++ numB n := by rw [← hz, hy]; simp
        exact e0
      clear hx hn hn2 hy hl9
      go_wp2_with (go_at_call 80; refine H3.out.mono ?_; rintro e w' ⟨rfl, hb4⟩; have HB4 := Lib.hid hb4; clear hb4)
      go_roundw
      case rel =>
        refine ⟨k + 1, z, by go_num, rfl, by omega, ?_, belStep HB.out HB4.out⟩
        rw [HZ.out, HX.out, nats_take d k hlt, HN.out]
        simp
      case measure => simp [intOf]; omega
    · have hlt' : decide ((k : Int) < (d.size : Int)) = false := by simp; omega
      have HE : Hid (x = ⟨(rowB (nats d)).toArray⟩) := by
        have e0 : x = ⟨(rowB (nats d)).toArray⟩ := by
          apply ByteArray.ext
          apply Array.ext'
          have e1 : k = d.size := by omega
          rw [HX.out, e1, nats_all]
          unfold rowB
          rw [nats_len]
        exact e0
      go_wp2
      go_ret2
      exact ⟨ret_si HE.out rfl, HB.out⟩
end Go.Proofs.YtlpplnmmcgdooaaGreatDoor
namespace Go.Proofs.YtlpplnmmcgdooaaGreatDoor
open Go.RowKit Nb

theorem int_info : (Tryz.prog.info? 3).map (fun i => (i.zero, i.size, i.bytes)) = some (some (.int .i64 0), 1, 8) := by kernel_rfl
theorem one_new (w : World) (u : Value) (e : TypeId) : ∀ (j : Nat) (v : Value), [u][j]? = some v → (w.alloc (.cells #[u] e)).cell? (Addr.add ⟨w.heap.size, 0, none⟩ j) = some v := by
  intro j v hj
  match j, hj with
  | 0, hj => simp at hj; subst hj; simp [Addr.add]
theorem Get_ok (s : ByteArray) (p n k : Nat) (w : World) (hp : p ≤ s.size) (hs : s.size ≤ 1000000) (h : getL (s.data.toList.drop p) = .ok n k) :
    Calls Tryz.prog 101 #[.string s, .int .i64 p] w fun e w' => e = .returned (.tuple #[.int .i64 (n : Int), .int .i64 ((p + k : Nat) : Int), .int .i64 0]) ∧ w = w' :=
  (Get_any s p w hp hs).mono fun e w' ⟨he, hw⟩ => ⟨by rw [he, h]; rfl, hw⟩
theorem Get_no (s : ByteArray) (p c : Nat) (w : World) (hp : p ≤ s.size) (hs : s.size ≤ 1000000) (h : getL (s.data.toList.drop p) = .no c) :
    Calls Tryz.prog 101 #[.string s, .int .i64 p] w fun e w' => e = .returned (.tuple #[.int .i64 0, .int .i64 0, .int .i64 (c : Int)]) ∧ w = w' :=
  (Get_any s p w hp hs).mono fun e w' ⟨he, hw⟩ => ⟨by rw [he, h]; rfl, hw⟩
theorem rGet_ok (s : ByteArray) (p n k : Nat) (w : World) (hp : p ≤ s.size) (hs : s.size ≤ 1000000) (h : getL (s.data.toList.drop p) = .ok n k) :
    Calls Tryz.prog 95 #[.string s, .int .i64 p] w fun e w' => e = .returned (.tuple #[.int .i64 (n : Int), .int .i64 ((p + k : Nat) : Int), .int .i64 0]) ∧ w = w' :=
  (rGet_any s p w hp hs).mono fun e w' ⟨he, hw⟩ => ⟨by rw [he, h]; rfl, hw⟩
theorem rGet_no (s : ByteArray) (p c : Nat) (w : World) (hp : p ≤ s.size) (hs : s.size ≤ 1000000) (h : getL (s.data.toList.drop p) = .no c) :
    Calls Tryz.prog 95 #[.string s, .int .i64 p] w fun e w' => e = .returned (.tuple #[.int .i64 0, .int .i64 0, .int .i64 (c : Int)]) ∧ w = w' :=
  (rGet_any s p w hp hs).mono fun e w' ⟨he, hw⟩ => ⟨by rw [he, h]; rfl, hw⟩
def ints (l : List Nat) : Array Int := (l.map Int.ofNat).toArray
theorem ints_size (l : List Nat) : (ints l).size = l.length := by simp [ints]
/-- What a row that was read is, as a result. -/
def UnR (p : Nat) (w : World) (r : UR) (e : Ending) (w' : World) : Prop := Below w.heap.size w w' ∧ match r with
  | .no c => e = .returned (.tuple #[.slice none 0 0, .int .i64 0, .int .i64 (c : Int)])
  | .ok l k => ∃ A cp, e = .returned (.tuple #[.slice A l.length cp, .int .i64 ((p + k : Nat) : Int), .int .i64 0]) ∧ RdI w'.heap.size w' A (ints l) ∧ (A = none → cp = 0) ∧ (∀ a, A = some a → w.heap.size ≤ a.block)
/-- A round's head. -/
def UnH (s : ByteArray) (p1 many : Nat) (w : World) (lv tv iv : Value) (wr : World) : Prop := ∃ (i q : Nat) (ns : List Nat), iv = .int .i64 (i : Int) ∧ tv = .int .i64 (q : Int) ∧
  wr.ownsRow w.heap.size 3 1 lv ns.length ((ns.map Int.ofNat).map (Value.int .i64)) ∧ q ≤ s.size ∧ i ≤ many ∧ ns.length = i ∧ p1 ≤ q ∧ unL many (s.data.toList.drop p1) = (unL (many - i) (s.data.toList.drop q)).glue ns (q - p1) ∧ Below w.heap.size w wr
theorem UnR.of_no {p c : Nat} {w w' : World} (hb : Below w.heap.size w w') : UnR p w (.no c) (.returned (.tuple #[.slice none 0 0, .int .i64 0, .int .i64 (c : Int)])) w' := ⟨hb, rfl⟩
set_option maxRecDepth 100000 in
set_option maxHeartbeats 2000000 in
theorem Unrow_any (s : ByteArray) (p top : Nat) (w : World) (hp : p ≤ s.size) (hs : s.size ≤ 1000000) (ht : top ≤ 1000) :
    Calls Tryz.prog 113 #[.string s, .int .i64 p, .int .i64 top] w fun e w' => UnR p w (unrow (s.data.toList.drop p) top) e w' := by
  cases hg : getL (s.data.toList.drop p) with
  | no c =>
    have HG := Lib.hid (Get_no s p c w hp hs hg)
    have HU : Hid (unrow (s.data.toList.drop p) top = .no c) := by show _ = _; unfold unrow; rw [hg]
    have hc := getL_no hg
    have hc0 : ((c : Int) != 0) = true := by simp; omega
    clear hg hc
    go_enter Tryz.func113, Tryz.ntmps113
    go_wp2_with (go_at_call 101; refine HG.out.mono ?_; rintro e w' ⟨rfl, rfl⟩)
    go_ret3
    rw [HU.out]
    exact UnR.of_no (Below.refl _ _)
  | ok n k =>
    have HG := Lib.hid (Get_ok s p n k w hp hs hg)
    obtain ⟨-, -, hk, hn⟩ := getL_ok hg
    have hk2 : p + k ≤ s.size := by rw [List.length_drop] at hk; simp at hk; omega
    by_cases hbig : min top 1000 < n
    · have HU : Hid (unrow (s.data.toList.drop p) top = .no 3) := by show _ = _; unfold unrow; rw [hg]; simp only; rw [if_pos hbig]
      have hb2 : decide (min (top : Int) 1000 < (n : Int)) = true := by simp; omega
      clear hbig hg hk hn
      go_enter Tryz.func113, Tryz.ntmps113
      go_wp2_with (go_at_call 101; refine HG.out.mono ?_; rintro e w' ⟨rfl, rfl⟩)
      go_ret3
      rw [HU.out]
      exact UnR.of_no (Below.refl _ _)
    · have HU : Hid (unrow (s.data.toList.drop p) top = (unL n (s.data.toList.drop (p + k))).glue [] k) := by show _ = _; unfold unrow; rw [hg]; simp only; rw [if_neg hbig, List.drop_drop]
      have hn1 : n ≤ 1000 := by omega
      have hb2 : decide (min (top : Int) 1000 < (n : Int)) = false := by simp; omega
      obtain ⟨p1, hp1⟩ : ∃ p1, p + k = p1 := ⟨_, rfl⟩
      rw [hp1] at HG HU hk2
      have HP1 := Lib.hid hp1
      obtain ⟨i0, hi0, hz0, hz1, hz2⟩ := info_parts int_info
      clear hg hk hn hbig hp1
      go_enter Tryz.func113, Tryz.ntmps113
      go_wp2_with (go_at_call 101; refine HG.out.mono ?_; rintro e w' ⟨rfl, rfl⟩)
      go_loopw [6, 7, 29] (fun lv tv iv wr => UnH s p1 n w lv tv iv wr) (fun _ _ iv _ => n - (intOf iv).toNat)
      case atStart => exact ⟨0, p1, [], rfl, rfl, World.ownsRow_nil _ _ _ _, hk2, Nat.zero_le _, rfl, Nat.le_refl _, by simp [UR.glue_nil], Below.refl _ _⟩
      case round =>
        obtain ⟨i, q, ns, rfl, rfl, hown, hq, hi, hns, hpq, hun, hb⟩ := hrel
        have HUN := Lib.hid hun
        have HB := Lib.hid hb
        have HNS := Lib.hid hns
        have hbs := hb.size
        clear hun hb hns
        by_cases hlt : i < n
        · have iz : (i : Int) < (n : Int) := by omega
          obtain ⟨m, hm⟩ : ∃ m, n - i = m + 1 := ⟨n - i - 1, by omega⟩
          cases hg2 : getL (s.data.toList.drop q) with
          | no c =>
            have HG2 := Lib.hid (Get_no s q c wr hq hs hg2)
            have HE : Hid (unrow (s.data.toList.drop p) top = .no c) := by
              show _ = _
              rw [HU.out, HUN.out, hm]
              simp only [unL, hg2, UR.glue]
            have hc := getL_no hg2
            have hc0 : ((c : Int) != 0) = true := by simp; omega
            clear hg2 hc hm
            go_wp2_with (go_at_call 101; refine HG2.out.mono ?_; rintro e w' ⟨rfl, rfl⟩)
            go_ret3
            rw [HE.out]
            exact UnR.of_no HB.out
          | ok x j =>
            have HG2 := Lib.hid (Get_ok s q x j wr hq hs hg2)
            obtain ⟨-, -, hj, hx⟩ := getL_ok hg2
            have hj2 : q + j ≤ s.size := by rw [List.length_drop] at hj; simp at hj; omega
            have HE : Hid (unL n (s.data.toList.drop p1) = (unL (n - (i + 1)) (s.data.toList.drop (q + j))).glue (ns ++ [x]) (q + j - p1)) := by
              show _ = _
              rw [HUN.out, hm]
              have e1 : n - (i + 1) = m := by omega
              have e2 : q - p1 + j = q + j - p1 := by omega
              simp only [unL, hg2, UR.glue_glue, List.drop_drop, e1, e2]
            obtain ⟨q2, hq2⟩ : ∃ q2, q + j = q2 := ⟨_, rfl⟩
            rw [hq2] at HG2 HE hj2
            have hpq2 : p1 ≤ q2 := by omega
            have hnl : ns.length ≤ 1000 := by have := HNS.out; omega
            clear hg2 hj hx hm hq2
            go_wp2_with (first | (go_at_call 101; refine HG2.out.mono ?_; rintro e w' ⟨rfl, rfl⟩) | (at_builtin; refine wpList_append_own _ rfl _ _ 23 rfl w.heap.size 3 i0 (.int .i64 0) 1 8 Tryz.underlying23 hi0 hz0 hz1 hz2 rfl (by decide) _ _ _ rfl (hown.alloc _) ⟨wr.heap.size, 0, none⟩ 1 1 [.int .i64 (x : Int)] rfl rfl (one_new wr _ _) (by simp [Value.oneCell']) (by unfold maxLen; omega) (by omega) (by simp; omega) ?_; intro v' w4 hown' hgrow _; have HO := Lib.hid hown'; have HB4 := Lib.hid ((belAlloc HB.out _).grown hgrow (by simp; omega) (fun t htt => (hown.lt t htt).1)); clear hown' hgrow))
            go_roundw
            case rel =>
              refine ⟨i + 1, q2, ns ++ [x], by go_num, rfl, ?_, hj2, by omega, by rw [List.length_append, HNS.out]; rfl, hpq2, HE.out, HB4.out⟩
              have := HO.out
              simpa using this
            case measure => simp [intOf]; omega
        · have iz : decide ((i : Int) < (n : Int)) = false := by simp; omega
          have HE : Hid (unrow (s.data.toList.drop p) top = .ok ns (q - p1 + k)) := by
            show _ = _
            have e1 : n - i = 0 := by omega
            rw [HU.out, HUN.out, e1]
            simp [unL, UR.glue]
            omega
          obtain ⟨A, cp, rfl, hrd, hnil, hlo⟩ := RdI.of_owns (xs := ns.map Int.ofNat) (by simpa using hown)
          have HLO := Lib.hid hlo
          have HRD := Lib.hid hrd
          have HNI := Lib.hid hnil
          clear hrd hnil hown hlo
          go_wp2
          go_ret3
          rw [HE.out]
          refine ⟨HB.out, A, cp, ?_, HRD.out, HNI.out, HLO.out⟩
          have e1 : q = p + (q - p1 + k) := by have := HP1.out; omega
          have e2 : (ns.map Int.ofNat).length = ns.length := by simp
          simp only [← e1]
          first | rfl | (rw [← e2]; rfl)
set_option maxRecDepth 100000 in
set_option maxHeartbeats 2000000 in
theorem rUnrow_any (s : ByteArray) (p top : Nat) (w : World) (hp : p ≤ s.size) (hs : s.size ≤ 1000000) (ht : top ≤ 1000) :
    Calls Tryz.prog 97 #[.string s, .int .i64 p, .int .i64 top] w fun e w' => UnR p w (unrow (s.data.toList.drop p) top) e w' := by
  cases hg : getL (s.data.toList.drop p) with
  | no c =>
    have HG := Lib.hid (rGet_no s p c w hp hs hg)
    have HU : Hid (unrow (s.data.toList.drop p) top = .no c) := by show _ = _; unfold unrow; rw [hg]
    have hc := getL_no hg
    have hc0 : ((c : Int) != 0) = true := by simp; omega
    clear hg hc
    go_enter Tryz.func97, Tryz.ntmps97
    go_wp2_with (go_at_call 95; refine HG.out.mono ?_; rintro e w' ⟨rfl, rfl⟩)
    go_ret3
    rw [HU.out]
    exact UnR.of_no (Below.refl _ _)
  | ok n k =>
    have HG := Lib.hid (rGet_ok s p n k w hp hs hg)
    obtain ⟨-, -, hk, hn⟩ := getL_ok hg
    have hk2 : p + k ≤ s.size := by rw [List.length_drop] at hk; simp at hk; omega
    by_cases hbig : min top 1000 < n
    · have HU : Hid (unrow (s.data.toList.drop p) top = .no 3) := by show _ = _; unfold unrow; rw [hg]; simp only; rw [if_pos hbig]
      clear hg hk hn
      by_cases hb3 : 1000 < n
      · have hb2 : decide ((1000 : Int) < (n : Int)) = true := by simp; omega
        clear hbig hb3
        go_enter Tryz.func97, Tryz.ntmps97
        go_wp2_with (go_at_call 95; refine HG.out.mono ?_; rintro e w' ⟨rfl, rfl⟩)
        go_ret3
        rw [HU.out]
        exact UnR.of_no (Below.refl _ _)
      · have hb2 : decide ((1000 : Int) < (n : Int)) = false := by simp; omega
        have hb4 : decide (top < n) = true := by simp; omega
        have hb5 : decide ((0 : Int) < (n : Int)) = true := by simp; omega
        have hb6 : 0 < n := by omega
        clear hbig hb3
        go_enter Tryz.func97, Tryz.ntmps97
        go_wp2_with (go_at_call 95; refine HG.out.mono ?_; rintro e w' ⟨rfl, rfl⟩)
        go_ret3
        rw [HU.out]
        exact UnR.of_no (Below.refl _ _)
    · have HU : Hid (unrow (s.data.toList.drop p) top = (unL n (s.data.toList.drop (p + k))).glue [] k) := by show _ = _; unfold unrow; rw [hg]; simp only; rw [if_neg hbig, List.drop_drop]
      have hn1 : n ≤ 1000 := by omega
      have hb2 : decide ((1000 : Int) < (n : Int)) = false := by simp; omega
      have hb4 : decide (top < n) = false := by simp; omega
      obtain ⟨p1, hp1⟩ : ∃ p1, p + k = p1 := ⟨_, rfl⟩
      rw [hp1] at HG HU hk2
      have HP1 := Lib.hid hp1
      obtain ⟨i0, hi0, hz0, hz1, hz2⟩ := info_parts int_info
      clear hg hk hn hbig hp1
      go_enter Tryz.func97, Tryz.ntmps97
      go_wp2_with (go_at_call 95; refine HG.out.mono ?_; rintro e w' ⟨rfl, rfl⟩)
      go_loopw [10, 12, 13] (fun tv lv iv wr => UnH s p1 n w lv tv iv wr) (fun _ _ iv _ => n - (intOf iv).toNat)
      case atStart => exact ⟨0, p1, [], rfl, rfl, World.ownsRow_nil _ _ _ _, hk2, Nat.zero_le _, rfl, Nat.le_refl _, by simp [UR.glue_nil], Below.refl _ _⟩
      case round =>
        obtain ⟨i, q, ns, rfl, rfl, hown, hq, hi, hns, hpq, hun, hb⟩ := hrel
        have HUN := Lib.hid hun
        have HB := Lib.hid hb
        have HNS := Lib.hid hns
        have hbs := hb.size
        clear hun hb hns
        by_cases hlt : i < n
        · have iz : (i : Int) < (n : Int) := by omega
          obtain ⟨m, hm⟩ : ∃ m, n - i = m + 1 := ⟨n - i - 1, by omega⟩
          cases hg2 : getL (s.data.toList.drop q) with
          | no c =>
            have HG2 := Lib.hid (rGet_no s q c wr hq hs hg2)
            have HE : Hid (unrow (s.data.toList.drop p) top = .no c) := by
              show _ = _
              rw [HU.out, HUN.out, hm]
              simp only [unL, hg2, UR.glue]
            have hc := getL_no hg2
            have hc0 : ((c : Int) != 0) = true := by simp; omega
            clear hg2 hc hm
            go_wp2_with (go_at_call 95; refine HG2.out.mono ?_; rintro e w' ⟨rfl, rfl⟩)
            go_ret3
            rw [HE.out]
            exact UnR.of_no HB.out
          | ok x j =>
            have HG2 := Lib.hid (rGet_ok s q x j wr hq hs hg2)
            obtain ⟨-, -, hj, hx⟩ := getL_ok hg2
            have hj2 : q + j ≤ s.size := by rw [List.length_drop] at hj; simp at hj; omega
            have HE : Hid (unL n (s.data.toList.drop p1) = (unL (n - (i + 1)) (s.data.toList.drop (q + j))).glue (ns ++ [x]) (q + j - p1)) := by
              show _ = _
              rw [HUN.out, hm]
              have e1 : n - (i + 1) = m := by omega
              have e2 : q - p1 + j = q + j - p1 := by omega
              simp only [unL, hg2, UR.glue_glue, List.drop_drop, e1, e2]
            obtain ⟨q2, hq2⟩ : ∃ q2, q + j = q2 := ⟨_, rfl⟩
            rw [hq2] at HG2 HE hj2
            have hpq2 : p1 ≤ q2 := by omega
            have hnl : ns.length ≤ 1000 := by have := HNS.out; omega
            clear hg2 hj hx hm hq2
            go_wp2_with (first | (go_at_call 95; refine HG2.out.mono ?_; rintro e w' ⟨rfl, rfl⟩) | (at_builtin; refine wpList_append_own _ rfl _ _ 23 rfl w.heap.size 3 i0 (.int .i64 0) 1 8 Tryz.underlying23 hi0 hz0 hz1 hz2 rfl (by decide) _ _ _ rfl (hown.alloc _) ⟨wr.heap.size, 0, none⟩ 1 1 [.int .i64 (x : Int)] rfl rfl (one_new wr _ _) (by simp [Value.oneCell']) (by unfold maxLen; omega) (by omega) (by simp; omega) ?_; intro v' w4 hown' hgrow _; have HO := Lib.hid hown'; have HB4 := Lib.hid ((belAlloc HB.out _).grown hgrow (by simp; omega) (fun t htt => (hown.lt t htt).1)); clear hown' hgrow))
            go_roundw
            case rel =>
              refine ⟨i + 1, q2, ns ++ [x], by go_num, rfl, ?_, hj2, by omega, by rw [List.length_append, HNS.out]; rfl, hpq2, HE.out, HB4.out⟩
              have := HO.out
              simpa using this
            case measure => simp [intOf]; omega
        · have iz : decide ((i : Int) < (n : Int)) = false := by simp; omega
          have HE : Hid (unrow (s.data.toList.drop p) top = .ok ns (q - p1 + k)) := by
            show _ = _
            have e1 : n - i = 0 := by omega
            rw [HU.out, HUN.out, e1]
            simp [unL, UR.glue]
            omega
          obtain ⟨A, cp, rfl, hrd, hnil, hlo⟩ := RdI.of_owns (xs := ns.map Int.ofNat) (by simpa using hown)
          have HLO := Lib.hid hlo
          have HRD := Lib.hid hrd
          have HNI := Lib.hid hnil
          clear hrd hnil hown hlo
          go_wp2
          go_ret3
          rw [HE.out]
          refine ⟨HB.out, A, cp, ?_, HRD.out, HNI.out, HLO.out⟩
          have e1 : q = p + (q - p1 + k) := by have := HP1.out; omega
          have e2 : (ns.map Int.ofNat).length = ns.length := by simp
          simp only [← e1]
          first | rfl | (rw [← e2]; rfl)
end Go.Proofs.YtlpplnmmcgdooaaGreatDoor
