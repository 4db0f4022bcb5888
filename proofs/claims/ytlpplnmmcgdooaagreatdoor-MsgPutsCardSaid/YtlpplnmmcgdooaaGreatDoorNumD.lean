/- num.Put and the document's Put. -/
import Derived.Test.YtlpplnmmcgdooaaGreatDoorNumC
namespace Go.Proofs.YtlpplnmmcgdooaaGreatDoor
open Go.RowKit Nb

theorem ret_si {a b : ByteArray} {k : IntKind} {c d : Int} (h : a = b) (h' : c = d) : Ending.returned (.tuple #[.string a, .int k c]) = .returned (.tuple #[.string b, .int k d]) := by rw [h, h']
/-- The cells of num.Put's buffer behind j rounds. -/
def cellF (N S j t : Nat) : Value := if t = 0 then .int .u8 (128 + (S : Int) - 1) else if t + j < S then .int .u8 0 else .int .u8 ((N / 256 ^ (S - 1 - t) % 256 : Nat) : Int)
def cellsJ (N S j : Nat) : Array Value := ((List.range S).map (cellF N S j)).toArray
def zerosN (S : Nat) : Array Value := ((List.range S).map (fun _ => Value.int .u8 0)).toArray
theorem cellsJ_at (N S j t : Nat) : (cellsJ N S j)[t]? = if t < S then some (cellF N S j t) else none := by
  unfold cellsJ
  by_cases h : t < S
  · simp [h]
  · simp [h]
theorem cells_start (N S : Nat) (hS : 0 < S) : (zerosN S).setIfInBounds 0 (.int .u8 (128 + (S : Int) - 1)) = cellsJ N S 0 := by
  apply Array.ext_getElem?
  intro t
  rw [cellsJ_at, Array.getElem?_setIfInBounds]
  unfold zerosN cellF
  by_cases h0 : t = 0
  · subst h0; simp [hS]
  · rw [if_neg (by omega)]
    by_cases h : t < S
    · simp [h, h0]
    · simp [h]
theorem cells_step (N S i j : Nat) (hi : 0 < i) (hij : i + j + 1 = S) (v : Value) (hv : v = .int .u8 ((N / 256 ^ j % 256 : Nat) : Int)) : (cellsJ N S j).setIfInBounds i v = cellsJ N S (j + 1) := by
  apply Array.ext_getElem?
  intro t
  rw [Array.getElem?_setIfInBounds, cellsJ_at, cellsJ_at]
  have hs : (cellsJ N S j).size = S := by simp [cellsJ]
  rw [hs]
  by_cases h : i = t
  · subst h
    rw [if_pos rfl, if_pos (by omega), if_pos (by omega), hv]
    unfold cellF
    rw [if_neg (by omega), if_neg (by omega)]
    have : S - 1 - i = j := by omega
    rw [this]
  · rw [if_neg h]
    by_cases ht : t < S
    · rw [if_pos ht, if_pos ht]
      unfold cellF
      by_cases h0 : t = 0
      · rw [if_pos h0, if_pos h0]
      · rw [if_neg h0, if_neg h0]
        by_cases h1 : t + j < S
        · rw [if_pos h1, if_pos (by omega)]
        · rw [if_neg h1, if_neg (by omega)]
    · rw [if_neg ht, if_neg ht]
theorem cells_end (N : Nat) (h : 128 ≤ N) (hm : N ≤ 9223372036854775807) (w : World) (t : Nat) (ht : t < (numB N).length) :
    (w.alloc (.cells (cellsJ N (numB N).length ((numB N).length - 1)) 5)).cell? (Addr.add ⟨w.heap.size, 0, none⟩ t) = some (.int .u8 ((numB N)[t].toNat : Int)) := by
  have hl := numB_len N hm
  have e1 : (w.alloc (.cells (cellsJ N (numB N).length ((numB N).length - 1)) 5)).heap[w.heap.size]? = some (.cells (cellsJ N (numB N).length ((numB N).length - 1)) 5 (0, 0)) := by show (w.heap.push _)[w.heap.size]? = _; simp
  have e2 : (w.alloc (.cells (cellsJ N (numB N).length ((numB N).length - 1)) 5)).cell? ⟨w.heap.size, 0 + t, none⟩ = (cellsJ N (numB N).length ((numB N).length - 1))[0 + t]? := by
    unfold World.cell?
    simp only [e1]
    rfl
  rw [Addr.add_lit, e2, Nat.zero_add, cellsJ_at, if_pos ht]
  have e3 := numB_at N h hm t ht
  rw [List.getElem?_eq_getElem ht] at e3
  injection e3 with e3
  rw [e3]
  unfold cellF
  by_cases h0 : t = 0
  · rw [if_pos h0, if_pos h0, toNat_ofNat (by omega)]
    have : (128 + ((numB N).length : Int) - 1) = ((127 + (numB N).length : Nat) : Int) := by omega
    rw [this]
  · rw [if_neg h0, if_neg h0, if_neg (by omega), toNat_ofNat (Nat.mod_lt _ (by omega))]
theorem byte_info : (Tryz.prog.info? 5).map (fun i => (i.zero, i.size, i.bytes)) = some (some (.int .u8 0), 1, 1) := by kernel_rfl
theorem make_bytes (S : Nat) (hS : S ≤ 1000) (W : World) : (Instr.makeSlice 72 (.int .i64 (S : Int)) (.int .i64 (S : Int))).run Tryz.prog W = .ok (.slice (some ⟨W.heap.size, 0, none⟩) S S) (W.alloc (.cells (zerosN S) 5)) := by
  obtain ⟨i0, hi0, hz0, hz1, hz2⟩ := info_parts byte_info
  have h := run_make (P := Tryz.prog) W 72 5 i0 (.int .u8 0) Tryz.underlying72 hi0 hz0 .i64 .i64 (S : Int) (S : Int) (by omega) (by omega) (by rw [hz2]; omega) (by omega)
  rw [h]
  have : madeCells (Value.int .u8 0).cells ((S : Int).toNat * i0.size) = zerosN S := by
    rw [hz1, Int.toNat_natCast, Nat.mul_one]
    unfold madeCells zerosN
    apply Array.ext_getElem?
    intro t
    by_cases ht : t < S
    · simp [ht, Value.cells, Nat.mod_one]
    · simp [ht]
  rw [this, Int.toNat_natCast]
theorem numB_small {n : Nat} (h : n < 128) : numB n = [UInt8.ofNat n] := by unfold numB; rw [if_pos h]
theorem wrap_u8 (n : Nat) : IntKind.u8.wrap (n : Int) = ((n % 256 : Nat) : Int) := by rw [IntKind.wrap_u8]; omega
theorem conv_one (n : Nat) (h : n < 128) (W : World) : (convert 72 9 (.slice (some ⟨W.heap.size, 0, none⟩) 1 1)).run Tryz.prog (W.alloc (.cells #[.int .u8 (n : Int)] 5)) = .ok (.string ⟨(numB n).toArray⟩) (W.alloc (.cells #[.int .u8 (n : Int)] 5)) := by
  rw [numB_small h]
  have := run_convert_bytes_back (P := Tryz.prog) (W.alloc (.cells #[.int .u8 (n : Int)] 5)) 72 9 5 ⟨W.heap.size, 0, none⟩ 1 [UInt8.ofNat n] Tryz.underlying72 Tryz.underlying5 Tryz.underlying9 (by
    intro j hj
    match j, hj with
    | 0, _ => simp [Addr.add]; omega)
  exact this
set_option maxRecDepth 100000 in
set_option maxHeartbeats 1000000 in
theorem Put_any (n : Nat) (w : World) (hn : n ≤ 9223372036854775807) :
    Calls Tryz.prog 77 #[.int .i64 n] w fun e w' => e = .returned (.tuple #[.string ⟨(numB n).toArray⟩, .int .i64 0]) ∧ Below w.heap.size w w' := by
  have HS := Lib.hid (Size_any n w hn)
  by_cases h : n < 128
  · have hs : (numB n).length = 1 := by rw [numB_small h]; rfl
    rw [hs] at HS
    have hw : IntKind.u8.wrap (n : Int) = (n : Int) := by rw [wrap_u8]; omega
    have hc := conv_one n h w
    clear hs
    go_enter Tryz.func77, Tryz.ntmps77
    go_wp2_with (go_at_call 104; refine HS.out.mono ?_; rintro e w' ⟨rfl, rfl⟩)
    go_ret2
    exact ⟨rfl, bel1 w _⟩
  · have hl := numB_len n hn
    have hs := numB_size n (by omega)
    have hp := be_pos_len (n := n) (by omega)
    have hE := fun t ht => cells_end n (by omega) hn w t ht
    have hcv := run_convert_bytes_back (P := Tryz.prog) (w.alloc (.cells (cellsJ n (numB n).length ((numB n).length - 1)) 5)) 72 9 5 ⟨w.heap.size, 0, none⟩ (numB n).length (numB n) Tryz.underlying72 Tryz.underlying5 Tryz.underlying9 hE
    have HB := Lib.hid (bel1 w (.cells (cellsJ n (numB n).length ((numB n).length - 1)) 5))
    clear hE
    have h2 : 2 ≤ (numB n).length := by omega
    clear hs hp
    generalize (numB n).length = S at HS hl h2 hcv HB
    have HCV := Lib.hid hcv
    clear hcv
    have hmk := make_bytes S (by omega)
    have HST := Lib.hid (cells_start n S (by omega))
    have f0 : ((S : Int) == 0) = false := by simp; omega
    have f1 : ((S : Int) == 1) = false := by simp; omega
    have z0 : (zerosN S)[0]? = some (.int .u8 0) := by unfold zerosN; rw [List.getElem?_toArray, List.getElem?_map, List.getElem?_range (by omega)]; rfl
    go_enter Tryz.func77, Tryz.ntmps77
    go_wp2_with (go_at_call 104; refine HS.out.mono ?_; rintro e w' ⟨rfl, rfl⟩)
    go_loopw [0, 6] (fun nv iv wr => ∃ i j : Nat, i + j + 1 = S ∧ iv = .int .i64 i ∧ nv = .int .i64 ((n / 256 ^ j : Nat) : Int) ∧ wr = w.alloc (.cells (cellsJ n S j) 5)) (fun _ i _ => (intOf i).toNat)
    case atStart => exact ⟨S - 1, 0, by omega, by go_num, by simp, by rw [HST.out]⟩
    case round =>
      obtain ⟨i, j, hij, rfl, rfl, rfl⟩ := hrel
      by_cases hi : 0 < i
      · have zc : (cellsJ n S j)[i]? = some (cellF n S j i) := by rw [cellsJ_at, if_pos (by omega)]
        have iz : (i : Int) < (S : Int) := by omega
        have i0 : (0 : Int) < (i : Int) := by omega
        have HST2 := Lib.hid (fun v hv => cells_step n S i j hi hij v hv)
        have e9 : n / 256 ^ j / 256 = n / 256 ^ (j + 1) := by rw [Nat.div_div_eq_div_mul, Nat.pow_succ]
        have HE9 := Lib.hid e9
        have HIJ := Lib.hid hij
        have hw := wrap_u8 (n / 256 ^ j)
        clear e9 hij
        have hy : n / 256 ^ j ≤ n := Nat.div_le_self _ _
        generalize n / 256 ^ j = y at hw HST2 HE9 hy
        have hy2 : y ≤ 9223372036854775807 := by omega
        clear hy
        go_wp2
        go_roundw
        case rel =>
          refine ⟨i - 1, j + 1, by have := HIJ.out; omega, by go_num, ?_, ?_⟩
          · rw [← HE9.out]; congr 1
          · rw [HST2.out (.int .u8 ((y : Int) % 256)) (by congr 1)]
        case measure => simp [intOf]; omega
      · obtain rfl : i = 0 := by omega
        obtain rfl : j = S - 1 := by omega
        have h00 : ¬ ((0 : Int) < ((0 : Nat) : Int)) := by omega
        have hcv := HCV.out
        go_wp2
        go_ret2
        exact ⟨rfl, HB.out⟩
theorem PutNeg_any (n : Int) (w : World) (hn : n < 0) :
    Calls Tryz.prog 77 #[.int .i64 n] w fun e w' => e = .returned (.tuple #[.string ⟨#[]⟩, .int .i64 2]) ∧ Below w.heap.size w w' := by
  have HS : Hid (Calls Tryz.prog 104 #[.int .i64 n] w fun e w' => e = .returned (.int .i64 0) ∧ w = w') := by
    go_enter Tryz.func104, Tryz.ntmps104
    go_wp2
    go_ret
    exact ⟨rfl, rfl⟩
  go_enter Tryz.func77, Tryz.ntmps77
  go_wp2_with (go_at_call 104; refine HS.out.mono ?_; rintro e w' ⟨rfl, rfl⟩)
  go_ret2
  exact ⟨rfl, Below.refl _ _⟩
theorem conv_byte (c : Int) (u : UInt8) (hu : (u.toNat : Int) = c) (W : World) : (convert 72 9 (.slice (some ⟨W.heap.size, 0, none⟩) 1 1)).run Tryz.prog (W.alloc (.cells #[.int .u8 c] 5)) = .ok (.string ⟨#[u]⟩) (W.alloc (.cells #[.int .u8 c] 5)) := by
  have := run_convert_bytes_back (P := Tryz.prog) (W.alloc (.cells #[.int .u8 c] 5)) 72 9 5 ⟨W.heap.size, 0, none⟩ 1 [u] Tryz.underlying72 Tryz.underlying5 Tryz.underlying9 (by
    intro j hj
    match j, hj with
    | 0, _ => simp [Addr.add]; omega)
  exact this
theorem str_append (a b : List UInt8) : (⟨a.toArray⟩ : ByteArray) ++ ⟨b.toArray⟩ = ⟨(a ++ b).toArray⟩ := by
  apply ByteArray.ext
  simp
theorem str_cons (c : UInt8) (b : List UInt8) : (⟨#[c]⟩ : ByteArray) ++ ⟨b.toArray⟩ = ⟨(c :: b).toArray⟩ := str_append [c] b
theorem str_size (l : List UInt8) : (⟨l.toArray⟩ : ByteArray).size = l.length := by simp [ByteArray.size]
/-- The document's Put, at a round's head. -/
def PutR (n : Nat) (w : World) (nv ov : Value) (wr : World) : Prop := ∃ (y : Nat) (x : ByteArray), nv = .int .i64 (y : Int) ∧ ov = .string x ∧ y ≤ n ∧ be y ++ x.data.toList = be n ∧ Below w.heap.size w wr
set_option maxRecDepth 100000 in
set_option maxHeartbeats 1000000 in
theorem rPut_any (n : Nat) (w : World) (hn : n ≤ 9223372036854775807) :
    Calls Tryz.prog 80 #[.int .i64 n] w fun e w' => e = .returned (.tuple #[.string ⟨(numB n).toArray⟩, .int .i64 0]) ∧ Below w.heap.size w w' := by
  by_cases h : n < 128
  · have hw : IntKind.u8.wrap (n : Int) = (n : Int) := by rw [wrap_u8]; omega
    have hc := conv_one n h w
    go_enter Tryz.func80, Tryz.ntmps80
    go_wp2
    go_ret2
    exact ⟨rfl, bel1 w _⟩
  · go_enter Tryz.func80, Tryz.ntmps80
    go_wp2
    go_loopw [0, 4] (fun nv ov wr => PutR n w nv ov wr) (fun nv _ _ => (intOf nv).toNat)
    case atStart => exact ⟨n, ⟨#[]⟩, rfl, rfl, Nat.le_refl _, by simp, Below.refl _ _⟩
    case round =>
      obtain ⟨y, x, rfl, rfl, hy, hx, hb⟩ := hrel
      have hx8 : x.size ≤ 8 := by
        have h1 := be_len n 8 (by omega)
        have h2 : x.size = x.data.toList.length := by simp
        rw [← hx, List.length_append] at h1
        omega
      have HX := Lib.hid hx
      have HB := Lib.hid hb
      clear hx hb
      by_cases h0 : 0 < y
      · have z0 : (0 : Int) < (y : Int) := by omega
        have zy : (y : Int) ≤ 9223372036854775807 := by omega
        obtain ⟨u, hu⟩ : ∃ u : UInt8, u = UInt8.ofNat (y % 256) := ⟨_, rfl⟩
        have hu2 : (u.toNat : Int) = (y : Int) % 256 := by rw [hu, toNat_ofNat (by omega)]; omega
        have hc := conv_byte ((y : Int) % 256) u hu2 wr
        have m0 := Int.emod_nonneg (y : Int) (show (256 : Int) ≠ 0 by omega)
        have m1 := Int.emod_lt_of_pos (y : Int) (show (0 : Int) < 256 by omega)
        obtain ⟨z, hz⟩ : ∃ z, (⟨#[u]⟩ : ByteArray) ++ x = z := ⟨_, rfl⟩
        have HZ : Hid (z.data.toList = u :: x.data.toList) := by
          have e0 : z.data.toList = u :: x.data.toList := by rw [← hz]; simp
          exact e0
        have HU := Lib.hid hu
        clear hu hu2
        go_wp2
        go_roundw
        case rel =>
          refine ⟨y / 256, z, by go_num, rfl, by omega, ?_, belAlloc HB.out _⟩
          have e1 := HX.out
          rw [be_pos (by omega)] at e1
          rw [← e1, HZ.out, HU.out]; simp
        case measure => simp [intOf]; omega
      · have h00 : decide ((0 : Int) < (y : Int)) = false := by simp; omega
        have e1 : x.data.toList = be n := by
          have := HX.out
          have e0 : y = 0 := by omega
          rwa [e0, be_zero, List.nil_append] at this
        have hsz : x.size = (be n).length := by rw [← e1]; simp
        have hl := be_len n 8 (by omega)
        obtain ⟨u, hu⟩ : ∃ u : UInt8, u = UInt8.ofNat (128 + x.size) := ⟨_, rfl⟩
        have hu2 : (u.toNat : Int) = 128 + (x.size : Int) := by rw [hu, toNat_ofNat (by omega)]; omega
        have hc := conv_byte (128 + (x.size : Int)) u hu2 wr
        obtain ⟨z, hz⟩ : ∃ z, (⟨#[u]⟩ : ByteArray) ++ x = z := ⟨_, rfl⟩
        have HZ : Hid (z = ⟨(numB n).toArray⟩) := by
          rw [← hz]
          apply ByteArray.ext
          unfold numB
          rw [if_neg h, hu, hsz, ← e1]
          simp
        clear hu hu2 e1 hsz hl
        go_wp2
        go_ret2
        exact ⟨ret_si HZ.out rfl, belAlloc HB.out _⟩
theorem rPutNeg_any (n : Int) (w : World) (hn : n < 0) :
    Calls Tryz.prog 80 #[.int .i64 n] w fun e w' => e = .returned (.tuple #[.string ⟨#[]⟩, .int .i64 2]) ∧ Below w.heap.size w w' := by
  go_enter Tryz.func80, Tryz.ntmps80
  go_wp2
  go_ret2
  exact ⟨rfl, Below.refl _ _⟩
end Go.Proofs.YtlpplnmmcgdooaaGreatDoor
