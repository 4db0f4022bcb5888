/- Rows of the call's own whose elements are of k cells: what they hold, and what is appended to them. Slices of ints that read as arrays. num.Row and the document's Row: the bytes of a row. num.Unrow and the document's Unrow: what is read as a row. What is read of bytes, as what lies in rows: plain; groups. text.Writer: pieces laid, as long as none is at fault. A map from int to bool of the call's own, as a list of the keys that were laid: look-up and store. clock.Check and rubatoref15.Check: what both tell (plain), the program's walk with its map of what was seen. -/
import Derived.Laws.AppendOwnNone
import Derived.Laws.OwnMore
import Derived.OwnWalk
import Derived.Test.YtnmojicfmcbgmaaGreatDoorQRead
import Derived.Test.YtnmojicfmcbgmaaGreatDoorQBase
import Derived.Maps.OwnOps
import Derived.Maps.Views
namespace Go.Proofs.YtnmojicfmcbgmaaGreatDoor
open Go.RowKit Go.Sort Go.Lib

section
variable {α : Type} [Inhabited α] {enc : α → List Value} {k : Nat} {w w' : World} {A : Option Addr} {d : Array α} {B base : Nat} {e : TypeId} {v : Value}
theorem getK_some (enc : α → List Value) (k : Nat) (d : Array α) (t : Nat) (h : t < d.size * k) : (flatK enc k d).toList[t]? = some (enc d[t / k]!)[t % k]! := by
  have hs : t < (flatK enc k d).size := by rw [size_flatK]; exact h
  rw [Array.getElem?_toList, Array.getElem?_eq_getElem hs, ← get_flatK enc k d t h, getElem!_pos _ t hs]
theorem flatK_push (hk : ∀ x, (enc x).length = k) (d : Array α) (x : α) : (flatK enc k (d.push x)).toList = (flatK enc k d).toList ++ enc x := by
  apply List.ext_getElem?
  intro t
  have hm : (d.size + 1) * k = d.size * k + k := by rw [Nat.add_mul, Nat.one_mul]
  rcases Nat.lt_or_ge t (d.size * k) with h1 | h1
  · rw [List.getElem?_append_left (by simpa using h1), getK_some _ _ _ _ h1, getK_some _ _ _ _ (by rw [Array.size_push, hm]; omega)]
    have hq : t / k < d.size := by
      rw [Nat.mul_comm] at h1
      exact Nat.div_lt_of_lt_mul h1
    have e1 : (d.push x)[t / k]! = d[t / k]! := by
      rw [getElem!_pos (d.push x) _ (by simp; omega), getElem!_pos d _ hq, Array.getElem_push_lt]
    rw [e1]
  · rw [List.getElem?_append_right (by simpa using h1)]
    have hl : (flatK enc k d).toList.length = d.size * k := by simp
    rw [hl]
    rcases Nat.lt_or_ge t (d.size * k + k) with h2 | h2
    · obtain ⟨c, rfl⟩ : ∃ c, t = d.size * k + c := ⟨t - d.size * k, by omega⟩
      have hc : c < k := by omega
      have hs : d.size * k + c < (flatK enc k (d.push x)).size := by simp [hm]; omega
      rw [Array.getElem?_toList, Array.getElem?_eq_getElem hs, ← getElem!_pos (flatK enc k (d.push x)) _ hs, flat_at _ _ _ _ _ (by simp) hc]
      have e1 : (d.push x)[d.size]! = x := by rw [getElem!_pos (d.push x) d.size (by simp)]; simp
      rw [e1, Nat.add_sub_cancel_left, List.getElem!_eq_getElem?_getD, List.getElem?_eq_getElem (by rw [hk]; exact hc)]
      rfl
    · rw [List.getElem?_eq_none (by simp [hm]; omega), List.getElem?_eq_none (by rw [hk]; omega)]
theorem flatK_list (hk : ∀ x, (enc x).length = k) (d : Array α) : ∀ l : List α, (flatK enc k (d ++ l.toArray)).toList = (flatK enc k d).toList ++ l.flatMap enc
  | [] => by simp
  | x :: l => by
    have := flatK_list hk (d.push x) l
    have e1 : d ++ (x :: l).toArray = d.push x ++ l.toArray := by apply Array.ext'; simp
    rw [e1, this, flatK_push hk, List.flatMap_cons, List.append_assoc]
theorem flatK_nil (enc : α → List Value) (k : Nat) : (flatK enc k #[]).toList = [] := by simp [flatK]
theorem flatK_flatMap (hk : ∀ x, (enc x).length = k) (d : Array α) : (flatK enc k d).toList = d.toList.flatMap enc := by
  have := flatK_list hk #[] d.toList
  simpa [flatK_nil] using this
theorem flatK_append (hk : ∀ x, (enc x).length = k) (a b : Array α) : (flatK enc k (a ++ b)).toList = (flatK enc k a).toList ++ (flatK enc k b).toList := by
  have := flatK_list hk a b.toList
  rw [flatK_flatMap hk b]
  simpa using this
/-- A row of the call's own: it reads as its elements. -/
theorem rdK_of_owns (h : w.ownsRow base e k v d.size (flatK enc k d).toList) :
    ∃ A c, v = .slice A d.size c ∧ RdK enc k w.heap.size w A d ∧ (A = none → c = 0) := by
  by_cases hn : v = .slice none 0 0
  · subst hn
    obtain ⟨_, ⟨_, h0⟩ | ⟨g, cap, cur, hv, _⟩⟩ := h
    · exact ⟨none, 0, by rw [h0], fun h => absurd h0 (by omega), fun _ => rfl⟩
    · cases hv
  · obtain ⟨g, cap, hv, _, hlt, hH⟩ := holds_of_owns h hn
    exact ⟨_, cap, hv, RdK.of_holds hH hlt, fun h => by cases h⟩
theorem nil_ownsK (w : World) (base : Nat) (e : TypeId) (enc : α → List Value) (k : Nat) : w.ownsRow base e k (.slice none 0 0) (#[] : Array α).size (flatK enc k #[]).toList := by
  rw [flatK_nil]
  exact World.ownsRow_nil w base e k
end
end Go.Proofs.YtnmojicfmcbgmaaGreatDoor
namespace Go.Proofs.YtnmojicfmcbgmaaGreatDoor
open Go.RowKit Go.Sort

def encI (x : Int) : Value := .int .i64 x
/-- The slice at A, of d.size ints, reads as d, and lies below block B. -/
def RdI (B : Nat) (w : World) (A : Option Addr) (d : Array Int) : Prop :=
  0 < d.size → ∃ b off, A = some ⟨b, off, none⟩ ∧ b < B ∧ ∀ i, i < d.size → w.cell? ⟨b, off + i, none⟩ = some (.int .i64 d[i]!)
section
variable {w w' : World} {A : Option Addr} {d : Array Int} {B : Nat}
theorem RdI.below (h : RdI B w A d) (hb : Below B w w') : RdI B w' A d := fun h0 => by
  obtain ⟨b, off, e, hlt, hc⟩ := h h0
  exact ⟨b, off, e, hlt, fun t ht => (hb.cell (p := ⟨b, off + t, none⟩) hlt).trans (hc t ht)⟩
theorem RdI.mono {B' : Nat} (h : RdI B w A d) (hB : B ≤ B') : RdI B' w A d := fun h0 => by
  obtain ⟨b, off, e, hlt, hc⟩ := h h0
  exact ⟨b, off, e, by omega, hc⟩
/-- In a later world. -/
theorem RdI.next (h : RdI w.heap.size w A d) (hb : Below w.heap.size w w') : RdI w'.heap.size w' A d := (h.below hb).mono hb.size
theorem RdI.alloc (h : RdI B w A d) (hB : B ≤ w.heap.size) (o : Obj) : RdI B (w.alloc o) A d := h.below ((Below.refl _ _).alloc hB o)
theorem RdI.at_ (h : RdI B w A d) {i : Nat} (hi : i < d.size) : ∃ b off, A = some ⟨b, off, none⟩ ∧ b < B ∧ w.cell? ⟨b, off + i, none⟩ = some (.int .i64 d[i]!) := by
  obtain ⟨b, off, e, hlt, hc⟩ := h (by omega)
  exact ⟨b, off, e, hlt, hc i hi⟩
/-- Where block g alone has turned. -/
theorem RdI.grown (h : RdI w.heap.size w A d) {g : Nat} (hg : w.grownBy w' (some g)) (hne : ∀ a, A = some a → a.block ≠ g) : RdI w'.heap.size w' A d := fun h0 => by
  obtain ⟨b, off, e, hlt, hc⟩ := h h0
  exact ⟨b, off, e, Nat.lt_of_lt_of_le hlt hg.size, fun t ht => hg.cell (hc t ht) (by intro e'; injection e' with e'; exact hne _ e e')⟩
theorem RdI.none_ : RdI B w A #[] := fun h => absurd h (by decide)
theorem RdI.new (w : World) (d : Array Int) (e : TypeId) (cs : Array Value) (h : cs = d.map encI) : RdI (w.heap.size + 1) (w.alloc (.cells cs e)) (some ⟨w.heap.size, 0, none⟩) d := fun _ =>
  ⟨_, _, rfl, Nat.lt_succ_self _, fun i hi => by
    rw [cell_new, Nat.zero_add, h, Array.getElem?_map, Array.getElem?_eq_getElem hi, getElem!_pos _ i hi]; rfl⟩
/-- A row of the call's own, of ints: it reads as them. -/
theorem RdI.of_owns {base : Nat} {e : TypeId} {v : Value} {xs : List Int} (h : w.ownsRow base e 1 v xs.length (xs.map (Value.int .i64))) :
    ∃ A c, v = .slice A xs.length c ∧ RdI w.heap.size w A xs.toArray ∧ ((A = none → c = 0) ∧ xs.length ≤ c) ∧ (∀ a, A = some a → base ≤ a.block) := by
  obtain ⟨_, ⟨hv, h0⟩ | ⟨g, cap, cur, hv, hb, hh, hnc, hmx, hcur, htk⟩⟩ := h
  · exact ⟨none, 0, by rw [hv, h0], fun hh => absurd hh (by simp; simpa using h0), ⟨fun _ => rfl, Nat.le_of_eq h0⟩, fun _ h => by cases h⟩
  · have hlt : g < w.heap.size := by
      rcases Nat.lt_or_ge g w.heap.size with h | h
      · exact h
      · rw [Array.getElem?_eq_none h] at hh; cases hh
    refine ⟨_, cap, hv, fun _ => ⟨g, 0, rfl, hlt, fun i hi => ?_⟩, ⟨(fun h => by cases h), hnc⟩, fun a h => by injection h with h; subst h; exact hb⟩
    have hi' : i < xs.length := by simpa using hi
    have e1 : cur.toList[i]? = (xs.map (Value.int .i64))[i]? := by rw [← htk, List.getElem?_take_of_lt (by omega)]
    rw [Array.getElem?_toList] at e1
    simp only [World.cell?, hh, Nat.zero_add]
    rw [getElem!_pos xs.toArray i hi]
    simp [e1, hi']
end
end Go.Proofs.YtnmojicfmcbgmaaGreatDoor
namespace Go.Proofs.YtnmojicfmcbgmaaGreatDoor
open Go.RowKit Nb

/-- The numbers of a row. -/
def nats (d : Array Int) : List Nat := d.toList.map Int.toNat
/-- Numbers that may be laid. -/
def LayN (d : Array Int) : Prop := ∀ i, i < d.size → 0 ≤ d[i]! ∧ d[i]! ≤ 9223372036854775807
theorem nats_len (d : Array Int) : (nats d).length = d.size := by simp [nats]
theorem nats_take (d : Array Int) (k : Nat) (h : k < d.size) : (nats d).take (k + 1) = (nats d).take k ++ [d[k]!.toNat] := by
  rw [List.take_succ_eq_append_getElem (by rw [nats_len]; exact h)]
  congr 2
  simp [nats, getElem!_pos d k h]
theorem nats_all (d : Array Int) : (nats d).take d.size = nats d := List.take_of_length_le (by rw [nats_len]; exact Nat.le_refl _)
theorem LayN.nats {d : Array Int} (h : LayN d) : ∀ n ∈ nats d, n ≤ 9223372036854775807 := by
  intro n hn
  simp only [Go.Proofs.YtnmojicfmcbgmaaGreatDoor.nats, List.mem_map, Array.mem_toList_iff] at hn
  obtain ⟨x, hx, rfl⟩ := hn
  obtain ⟨i, hi, rfl⟩ := Array.getElem_of_mem hx
  have := h i hi
  rw [getElem!_pos d i hi] at this
  omega
theorem flat_len_M (l : List Nat) (h : ∀ n ∈ l, n ≤ 9223372036854775807) : (l.flatMap numB).length ≤ 9 * l.length := by
  induction l with
  | nil => simp
  | cons n l ih =>
    have h1 := numB_len n (h n (by simp))
    have h2 := ih (fun x hx => h x (by simp [hx]))
    rw [List.flatMap_cons, List.length_append, List.length_cons]; omega
theorem take_len (d : Array Int) (h : LayN d) (k : Nat) : (((nats d).take k).flatMap numB).length ≤ 9 * k := by
  have h1 := flat_len_M ((nats d).take k) (fun n hn => h.nats n (List.mem_of_mem_take hn))
  have h2 := List.length_take_le k (nats d)
  omega
/-- num.Row's closure. -/
theorem Row1_any (n : Nat) (B b : Nat) (l : List UInt8) (w : World) (hn : n ≤ 9223372036854775807) (h : Bld 63 [] B b l w) (hl : l.length ≤ 900000) (hB : B ≤ w.heap.size) :
    Calls Tryz.prog 172 #[.int .i64 n, .pointer (some ⟨b, 0, none⟩)] w fun e w' => e = .returned (.int .i64 0) ∧ Bld 63 [] B b (l ++ numB n) w' ∧ Below B w w' := by
  have HP := Lib.hid (Put_any n w hn)
  have H := Lib.hid h
  have h9 := numB_len n hn
  clear h
  go_enter Tryz.func172, Tryz.ntmps172
  go_wp2_with fail
  refine HP.out.mono ?_
  rintro e w1 ⟨rfl, hb1⟩
  have HW := Lib.hid (WriteString_any 63 [] B b l ⟨(numB n).toArray⟩ w1 liesB_bare (H.out.below hb1) (by rw [str_size]; omega) (Nat.le_trans hB hb1.size))
  have HB1 := Lib.hid hb1
  clear hb1
  go_wp2_with fail
  refine HW.out.mono ?_
  rintro e w2 ⟨rfl, h2, hb2, _⟩
  have H2 := Lib.hid h2
  have HB2 := Lib.hid hb2
  clear h2 hb2
  go_wp2
  go_ret
  exact ⟨rfl, Or.inr (by have := H2.out; simpa using this), (HB1.out.mono hB).trans HB2.out⟩
set_option maxRecDepth 100000 in
set_option maxHeartbeats 1000000 in
theorem Row_any (A : Option Addr) (c : Nat) (d : Array Int) (w : World) (h : RdI w.heap.size w A d) (hd : LayN d) (hs : d.size ≤ 10000) :
    Calls Tryz.prog 122 #[.slice A d.size c] w fun e w' => e = .returned (.tuple #[.string ⟨(rowB (nats d)).toArray⟩, .int .i64 0]) ∧ Below w.heap.size w w' := by
  have HR := Lib.hid h
  have HD := Lib.hid hd
  have h9 := numB_len d.size (by omega)
  have hB0 : Bld 63 [] w.heap.size w.heap.size [] (w.alloc (.cells #[.pointer none, .slice none 0 0] 63)) :=
    Or.inl ⟨Nat.le_refl _, .slice none 0 0, by show (w.heap.push _)[w.heap.size]? = _; simp, World.ownsRow_nil _ _ _ _, by simp [Value.ownBlock]⟩
  have H1 := Lib.hid (Row1_any d.size w.heap.size w.heap.size [] (w.alloc (.cells #[.pointer none, .slice none 0 0] 63)) (by omega) hB0 (by simp) (by simp))
  clear h hd hB0
  go_enter Tryz.func122, Tryz.ntmps122
  go_wp2_with fail
  refine H1.out.mono ?_
  rintro e w1 ⟨rfl, h1, hb1⟩
  have HX1 := Lib.hid h1
  have HB1 := Lib.hid ((bel1 w (.cells #[.pointer none, .slice none 0 0] 63)).trans hb1)
  clear h1 hb1 H1
  go_wp2
  go_loopw [6, 16] (fun e i wr => ∃ k : Nat, i = .int .i64 k ∧ e = .int .i64 0 ∧ k ≤ d.size ∧ Hid (Bld 63 [] w.heap.size w.heap.size (numB d.size ++ ((nats d).take k).flatMap numB) wr) ∧ Hid (Below w.heap.size w wr)) (fun _ i _ => d.size - (intOf i).toNat)
  case atStart => exact ⟨0, rfl, rfl, Nat.zero_le _, by have := HX1.out; exact Lib.hid (by simpa using this), HB1.out⟩
  case round =>
    obtain ⟨k, rfl, rfl, hk, hX, hB⟩ := hrel
    by_cases hlt : k < d.size
    · have kz : (k : Int) < (d.size : Int) := by omega
      obtain ⟨b, off, rfl, hbl, hc⟩ := (HR.out.below hB.out).at_ hlt
      have hx := HD.out k hlt
      obtain ⟨n, hn⟩ : ∃ n : Nat, d[k]! = (n : Int) := ⟨d[k]!.toNat, by omega⟩
      rw [hn] at hc
      have hn2 : n ≤ 9223372036854775807 := by omega
      have HN : Hid (d[k]!.toNat = n) := by show _ = _; rw [hn]; simp
      have htl := take_len d HD.out k
      have H3 := Lib.hid (Row1_any n w.heap.size w.heap.size _ wr hn2 hX.out (by rw [List.length_append]; omega) hB.out.size)
      clear hx hn htl hn2
      go_wp2_with (go_at_call 172; refine H3.out.mono ?_; rintro e w' ⟨rfl, h4, hb4⟩; have HX4 := Lib.hid h4; have HB4 := Lib.hid hb4; clear h4 hb4)
      go_roundw
      case rel =>
        refine ⟨k + 1, by go_num, rfl, by omega, ?_, hB.out.trans HB4.out⟩
        have := HX4.out
        rw [nats_take d k hlt, HN.out]
        exact Lib.hid (by simpa using this)
      case measure => simp [intOf]; omega
    · obtain rfl : k = d.size := by omega
      rw [nats_all] at hX
      have hlt' : ¬ (d.size : Int) < (d.size : Int) := by omega
      have H5 := Lib.hid (String_any 63 [] w.heap.size w.heap.size (rowB (nats d)) wr (by have := hX.out; unfold rowB; rw [nats_len]; exact this) (by
        intro e
        have h1 : (rowB (nats d)).length = 0 := by rw [e]; rfl
        have h2 := numB_pos (nats d).length
        unfold rowB at h1
        rw [List.length_append] at h1
        omega))
      go_wp2_with (go_at_call 70; refine H5.out.mono ?_; rintro e w' ⟨rfl, hb5⟩; have HB5 := Lib.hid hb5; clear hb5)
      go_ret2
      exact ⟨rfl, hB.out.trans HB5.out⟩
end Go.Proofs.YtnmojicfmcbgmaaGreatDoor
namespace Go.Proofs.YtnmojicfmcbgmaaGreatDoor
open Go.RowKit Nb

theorem int_info : (Tryz.prog.info? 3).map (fun i => (i.zero, i.size, i.bytes)) = some (some (.int .i64 0), 1, 8) := by kernel_rfl
theorem one_new (w : World) (u : Value) (e : TypeId) : ∀ (j : Nat) (v : Value), [u][j]? = some v → (w.alloc (.cells #[u] e)).cell? (Addr.add ⟨w.heap.size, 0, none⟩ j) = some v := by
  intro j v hj
  match j, hj with
  | 0, hj => simp at hj; subst hj; simp [Addr.add]
theorem Get_ok (s : ByteArray) (p n k : Nat) (w : World) (hp : p ≤ s.size) (hs : s.size ≤ 1000000) (h : getL (s.data.toList.drop p) = .ok n k) :
    Calls Tryz.prog 132 #[.string s, .int .i64 p] w fun e w' => e = .returned (.tuple #[.int .i64 (n : Int), .int .i64 ((p + k : Nat) : Int), .int .i64 0]) ∧ w = w' :=
  (Get_any s p w hp hs).mono fun e w' ⟨he, hw⟩ => ⟨by rw [he, h]; rfl, hw⟩
theorem Get_no (s : ByteArray) (p c : Nat) (w : World) (hp : p ≤ s.size) (hs : s.size ≤ 1000000) (h : getL (s.data.toList.drop p) = .no c) :
    Calls Tryz.prog 132 #[.string s, .int .i64 p] w fun e w' => e = .returned (.tuple #[.int .i64 0, .int .i64 0, .int .i64 (c : Int)]) ∧ w = w' :=
  (Get_any s p w hp hs).mono fun e w' ⟨he, hw⟩ => ⟨by rw [he, h]; rfl, hw⟩
def ints (l : List Nat) : Array Int := (l.map Int.ofNat).toArray
theorem ints_size (l : List Nat) : (ints l).size = l.length := by simp [ints]
/-- What a row that was read is, as a result. -/
def UnR (p : Nat) (w : World) (r : UR) (e : Ending) (w' : World) : Prop := Below w.heap.size w w' ∧ match r with
  | .no c => e = .returned (.tuple #[.slice none 0 0, .int .i64 0, .int .i64 (c : Int)])
  | .ok l k => ∃ A cp, e = .returned (.tuple #[.slice A l.length cp, .int .i64 ((p + k : Nat) : Int), .int .i64 0]) ∧ RdI w'.heap.size w' A (ints l) ∧ ((A = none → cp = 0) ∧ l.length ≤ cp) ∧ (∀ a, A = some a → w.heap.size ≤ a.block)
/-- A round's head. -/
def UnH (s : ByteArray) (p1 many : Nat) (w : World) (lv tv iv : Value) (wr : World) : Prop := ∃ (i q : Nat) (ns : List Nat), iv = .int .i64 (i : Int) ∧ tv = .int .i64 (q : Int) ∧
  wr.ownsRow w.heap.size 3 1 lv ns.length ((ns.map Int.ofNat).map (Value.int .i64)) ∧ q ≤ s.size ∧ i ≤ many ∧ ns.length = i ∧ p1 ≤ q ∧ unL many (s.data.toList.drop p1) = (unL (many - i) (s.data.toList.drop q)).glue ns (q - p1) ∧ Below w.heap.size w wr
theorem UnR.of_no {p c : Nat} {w w' : World} (hb : Below w.heap.size w w') : UnR p w (.no c) (.returned (.tuple #[.slice none 0 0, .int .i64 0, .int .i64 (c : Int)])) w' := ⟨hb, rfl⟩
set_option maxRecDepth 100000 in
set_option maxHeartbeats 2000000 in
theorem Unrow_any (s : ByteArray) (p top : Nat) (w : World) (hp : p ≤ s.size) (hs : s.size ≤ 1000000) (ht : top ≤ 1000) :
    Calls Tryz.prog 138 #[.string s, .int .i64 p, .int .i64 top] w fun e w' => UnR p w (unrow (s.data.toList.drop p) top) e w' := by
  cases hg : getL (s.data.toList.drop p) with
  | no c =>
    have HG := Lib.hid (Get_no s p c w hp hs hg)
    have HU : Hid (unrow (s.data.toList.drop p) top = .no c) := by show _ = _; unfold unrow; rw [hg]
    have hc := getL_no hg
    have hc0 : ((c : Int) != 0) = true := by simp; omega
    clear hg hc
    go_enter Tryz.func138, Tryz.ntmps138
    go_wp2_with (go_at_call 132; refine HG.out.mono ?_; rintro e w' ⟨rfl, rfl⟩)
    go_ret3
    rw [HU.out]
    exact UnR.of_no (Below.refl _ _)
  | ok n k =>
    have HG := Lib.hid (Get_ok s p n k w hp hs hg)
    obtain ⟨-, -, hk, hn⟩ := getL_ok hg
    have hk2 : p + k ≤ s.size := by rw [List.length_drop] at hk; simp at hk; omega
    by_cases hbig : min top 1000 < n
    · have HU : Hid (unrow (s.data.toList.drop p) top = .no 3) := by show _ = _; unfold unrow; rw [hg]; simp only; rw [if_pos hbig]
      have hb2 : decide (min (top : Int) 1000 < (n : Int)) = true := by simp; omega
      clear hbig hg hk hn
      go_enter Tryz.func138, Tryz.ntmps138
      go_wp2_with (go_at_call 132; refine HG.out.mono ?_; rintro e w' ⟨rfl, rfl⟩)
      go_ret3
      rw [HU.out]
      exact UnR.of_no (Below.refl _ _)
    · have HU : Hid (unrow (s.data.toList.drop p) top = (unL n (s.data.toList.drop (p + k))).glue [] k) := by show _ = _; unfold unrow; rw [hg]; simp only; rw [if_neg hbig, List.drop_drop]
      have hn1 : n ≤ 1000 := by omega
      have hb2 : decide (min (top : Int) 1000 < (n : Int)) = false := by simp; omega
      obtain ⟨p1, hp1⟩ : ∃ p1, p + k = p1 := ⟨_, rfl⟩
      rw [hp1] at HG HU hk2
      have HP1 := Lib.hid hp1
      obtain ⟨i0, hi0, hz0, hz1, hz2⟩ := info_parts int_info
      clear hg hk hn hbig hp1
      go_enter Tryz.func138, Tryz.ntmps138
      go_wp2_with (go_at_call 132; refine HG.out.mono ?_; rintro e w' ⟨rfl, rfl⟩)
      go_loopw [6, 7, 29] (fun lv tv iv wr => UnH s p1 n w lv tv iv wr) (fun _ _ iv _ => n - (intOf iv).toNat)
      case atStart => exact ⟨0, p1, [], rfl, rfl, World.ownsRow_nil _ _ _ _, hk2, Nat.zero_le _, rfl, Nat.le_refl _, by simp [UR.glue_nil], Below.refl _ _⟩
      case round =>
        obtain ⟨i, q, ns, rfl, rfl, hown, hq, hi, hns, hpq, hun, hb⟩ := hrel
        have HUN := Lib.hid hun
        have HB := Lib.hid hb
        have HNS := Lib.hid hns
        have hbs := hb.size
        clear hun hb hns
        by_cases hlt : i < n
        · have iz : (i : Int) < (n : Int) := by omega
          obtain ⟨m, hm⟩ : ∃ m, n - i = m + 1 := ⟨n - i - 1, by omega⟩
          cases hg2 : getL (s.data.toList.drop q) with
          | no c =>
            have HG2 := Lib.hid (Get_no s q c wr hq hs hg2)
            have HE : Hid (unrow (s.data.toList.drop p) top = .no c) := by
              show _ = _
              rw [HU.out, HUN.out, hm]
              simp only [unL, hg2, UR.glue]
            have hc := getL_no hg2
            have hc0 : ((c : Int) != 0) = true := by simp; omega
            clear hg2 hc hm
            go_wp2_with (go_at_call 132; refine HG2.out.mono ?_; rintro e w' ⟨rfl, rfl⟩)
            go_ret3
            rw [HE.out]
            exact UnR.of_no HB.out
          | ok x j =>
            have HG2 := Lib.hid (Get_ok s q x j wr hq hs hg2)
            obtain ⟨-, -, hj, hx⟩ := getL_ok hg2
            have hj2 : q + j ≤ s.size := by rw [List.length_drop] at hj; simp at hj; omega
            have HE : Hid (unL n (s.data.toList.drop p1) = (unL (n - (i + 1)) (s.data.toList.drop (q + j))).glue (ns ++ [x]) (q + j - p1)) := by
              show _ = _
              rw [HUN.out, hm]
              have e1 : n - (i + 1) = m := by omega
              have e2 : q - p1 + j = q + j - p1 := by omega
              simp only [unL, hg2, UR.glue_glue, List.drop_drop, e1, e2]
            obtain ⟨q2, hq2⟩ : ∃ q2, q + j = q2 := ⟨_, rfl⟩
            rw [hq2] at HG2 HE hj2
            have hpq2 : p1 ≤ q2 := by omega
            have hnl : ns.length ≤ 1000 := by have := HNS.out; omega
            clear hg2 hj hx hm hq2
            go_wp2_with (first | (go_at_call 132; refine HG2.out.mono ?_; rintro e w' ⟨rfl, rfl⟩) | (at_builtin; refine wpList_append_own _ rfl _ _ 26 rfl w.heap.size 3 i0 (.int .i64 0) 1 8 Tryz.underlying26 hi0 hz0 hz1 hz2 rfl (by decide) _ _ _ rfl (hown.alloc _) ⟨wr.heap.size, 0, none⟩ 1 1 [.int .i64 (x : Int)] rfl rfl (one_new wr _ _) (by simp [Value.oneCell']) (by unfold maxLen; omega) (by omega) (by simp; omega) ?_; intro v' w4 hown' hgrow _; have HO := Lib.hid hown'; have HB4 := Lib.hid ((belAlloc HB.out _).grown hgrow (by simp; omega) (fun t htt => (hown.lt t htt).1)); clear hown' hgrow))
            go_roundw
            case rel =>
              refine ⟨i + 1, q2, ns ++ [x], by go_num, rfl, ?_, hj2, by omega, by rw [List.length_append, HNS.out]; rfl, hpq2, HE.out, HB4.out⟩
              have := HO.out
              simpa using this
            case measure => simp [intOf]; omega
        · have iz : decide ((i : Int) < (n : Int)) = false := by simp; omega
          have HE : Hid (unrow (s.data.toList.drop p) top = .ok ns (q - p1 + k)) := by
            show _ = _
            have e1 : n - i = 0 := by omega
            rw [HU.out, HUN.out, e1]
            simp [unL, UR.glue]
            omega
          obtain ⟨A, cp, rfl, hrd, hnil, hlo⟩ := RdI.of_owns (xs := ns.map Int.ofNat) (by simpa using hown)
          have HLO := Lib.hid hlo
          have HRD := Lib.hid hrd
          have HNI : Hid ((A = none → cp = 0) ∧ ns.length ≤ cp) := ⟨hnil.1, by have := hnil.2; simpa using this⟩
          clear hrd hnil hown hlo
          go_wp2
          go_ret3
          rw [HE.out]
          refine ⟨HB.out, A, cp, ?_, HRD.out, HNI.out, HLO.out⟩
          have e1 : q = p + (q - p1 + k) := by have := HP1.out; omega
          have e2 : (ns.map Int.ofNat).length = ns.length := by simp
          simp only [← e1]
          first | rfl | (rw [← e2]; rfl)
end Go.Proofs.YtnmojicfmcbgmaaGreatDoor
namespace Go.Proofs.YtnmojicfmcbgmaaGreatDoor
open Go.RowKit Go.Sort Nb
theorem Nb.manyR_add {α : Type} (f : IS → IS × α) : ∀ (k j : Nat) (st : IS), manyR f (k + j) st = ((manyR f j (manyR f k st).1).1, (manyR f k st).2 ++ (manyR f j (manyR f k st).1).2)
  | 0, j, st => by rw [Nat.zero_add]; rfl
  | k + 1, j, st => by
    rw [Nat.succ_add, manyR, manyR_add f k j (f st).1]
    rfl
theorem Nb.manyR_stop {α : Type} {f : IS → IS × α} (h : ∀ st, st.r.e ≠ 0 → (f st).1 = st) {k n : Nat} {st : IS} (hk : k ≤ n) (he : (manyR f k st).1.r.e ≠ 0) : (manyR f n st).1 = (manyR f k st).1 := by
  obtain ⟨j, rfl⟩ := Nat.exists_eq_add_of_le hk
  rw [manyR_add]
  exact manyR_stuck h j _ he
theorem Nb.grp_snoc (n : Nat) : ∀ (k : Nat) (l : List Nat), grp n (k + 1) l = grp n k l ++ [(l.drop (k * n)).take n]
  | 0, l => by simp [grp]
  | k + 1, l => by
    rw [grp, grp_snoc n k (l.drop n), List.drop_drop, show n + k * n = (k + 1) * n by rw [Nat.succ_mul, Nat.add_comm]]
    rfl
/-! groups of numbers as what they mean -/
def toP (g : List Nat) : Int × Int := ((g[0]! : Nat), (g[1]! : Nat))
def pairsOf (gs : GS) : Array (Int × Int) := (gs.map toP).toArray
def toK (g : List Nat) : AK := ⟨(g[0]! : Nat), (g[1]! : Nat), (g[2]! : Nat), (g[3]! : Nat), (g[4]! : Nat), (g[5]! : Nat)⟩
def acksOf (gs : GS) : Array AK := (gs.map toK).toArray
theorem natP_to {g : List Nat} (h : g.length = 2) : natP (toP g) = g := by
  match g, h with
  | [a, b], _ => rfl
theorem ackN_to {g : List Nat} (h : g.length = 6) : ackN (toK g) = g := by
  match g, h with
  | [a, b, c, d, e, f], _ => rfl
theorem map_id_of {α : Type} {f : α → α} : ∀ {l : List α}, (∀ x ∈ l, f x = x) → l.map f = l
  | [], _ => rfl
  | x :: l, h => by rw [List.map_cons, h x (by simp), map_id_of fun y hy => h y (by simp [hy])]
theorem pairs_of {gs : GS} (h : ∀ g ∈ gs, g.length = 2) : pairM (pairsOf gs) = gs ∧ nnP (pairsOf gs) := by
  refine ⟨?_, fun x hx => ?_⟩
  · show (gs.map toP).map natP = gs
    rw [List.map_map]
    exact map_id_of fun g hg => natP_to (h g hg)
  · obtain ⟨g, _, rfl⟩ := List.mem_map.1 (show x ∈ gs.map toP from hx)
    exact ⟨Int.natCast_nonneg _, Int.natCast_nonneg _⟩
theorem acks_of {gs : GS} (h : ∀ g ∈ gs, g.length = 6) : (acksOf gs).toList.map ackN = gs ∧ ∀ a ∈ (acksOf gs).toList, nnA a := by
  refine ⟨?_, fun x hx => ?_⟩
  · show (gs.map toK).map ackN = gs
    rw [List.map_map]
    exact map_id_of fun g hg => ackN_to (h g hg)
  · obtain ⟨g, _, rfl⟩ := List.mem_map.1 (show x ∈ gs.map toK from hx)
    exact ⟨Int.natCast_nonneg _, Int.natCast_nonneg _, Int.natCast_nonneg _, Int.natCast_nonneg _, Int.natCast_nonneg _, Int.natCast_nonneg _⟩
theorem grp_one : ∀ (l : List Nat), grp 1 l.length l = l.map fun x => [x]
  | [] => rfl
  | x :: l => by rw [List.length_cons, grp, List.map_cons, ← grp_one l]; rfl
theorem ints_M (l : List Nat) : intM (ints l) = grp 1 (l.length / 1) l ∧ nnI (ints l) := by
  refine ⟨?_, fun x hx => ?_⟩
  · rw [Nat.div_one, grp_one]
    show ((l.map Int.ofNat).map fun n => [n.toNat]) = _
    rw [List.map_map]
    rfl
  · obtain ⟨g, _, rfl⟩ := List.mem_map.1 (show x ∈ l.map Int.ofNat from hx)
    exact Int.natCast_nonneg _
end Go.Proofs.YtnmojicfmcbgmaaGreatDoor
namespace Go.Proofs.YtnmojicfmcbgmaaGreatDoor
open Go.RowKit Nb

/-- A writer at block b that has laid the bytes l. -/
def Wrt (B b : Nat) (l : List UInt8) (w : World) : Prop := Bld 65 [.nilIface] B b l w
theorem liesB_wrt : LiesB 65 3 := ⟨by kernel_rfl, by decide⟩
theorem Wrt.below {B b : Nat} {l : List UInt8} {w w' : World} (h : Wrt B b l w) (hb : Below w.heap.size w w') : Wrt B b l w' := Bld.below h hb
theorem Wrt.new (w : World) : Wrt w.heap.size w.heap.size [] (w.alloc (.cells #[.pointer none, .slice none 0 0, .nilIface] 65)) :=
  Or.inl ⟨Nat.le_refl _, .slice none 0 0, by show (w.heap.push _)[w.heap.size]? = _; simp, World.ownsRow_nil _ _ _ _, by simp [Value.ownBlock]⟩
set_option maxRecDepth 100000 in
theorem put_any (B b : Nat) (l : List UInt8) (piece s : ByteArray) (w : World) (h : Wrt B b l w) (hl : l.length + s.size ≤ 1000000000) (hB : B ≤ w.heap.size) :
    Calls Tryz.prog 62 #[.pointer (some ⟨b, 0, none⟩), .string piece, .string s, .int .i64 0] w fun e w' => e = .returned (.tuple #[]) ∧ Wrt B b (l ++ s.data.toList) w' ∧ Below B w w' ∧ KeepT b w w' := by
  have hf : w.cell? ⟨b, 2, none⟩ = some .nilIface := Bld.field h 0
  have HW := Lib.hid (WriteString_any 65 [.nilIface] B b l s w liesB_wrt h hl hB)
  clear h
  go_enter Tryz.func62, Tryz.ntmps62
  go_wp2_with (go_at_call 120; refine HW.out.mono ?_; rintro e w' ⟨rfl, h2, hb2, hk2⟩; have H2 := Lib.hid h2; have HB2 := Lib.hid hb2; have HK2 := Lib.hid hk2; clear h2 hb2 hk2)
  go_end0
  exact ⟨rfl, Or.inr H2.out, HB2.out, HK2.out⟩
set_option maxRecDepth 100000 in
theorem WText_any (B b : Nat) (l : List UInt8) (s : ByteArray) (w : World) (h : Wrt B b l w) (hl : l.length + s.size ≤ 900000000) (hB : B ≤ w.heap.size) :
    Calls Tryz.prog 64 #[.pointer (some ⟨b, 0, none⟩), .string s] w fun e w' => e = .returned (.tuple #[]) ∧ Wrt B b (l ++ textB s.data.toList) w' ∧ Below B w w' ∧ KeepT b w w' := by
  have h9 := numB_len s.size (by omega)
  have HP := Lib.hid (Put_any s.size w (by omega))
  have H := Lib.hid h
  obtain ⟨y, hy⟩ : ∃ y : ByteArray, y = ⟨(numB s.size).toArray⟩ := ⟨_, rfl⟩
  have hys : y.size ≤ 9 := by rw [hy, str_size]; exact h9
  rw [← hy] at HP
  obtain ⟨z, hz⟩ : ∃ z, y ++ s = z := ⟨_, rfl⟩
  have hzs : z.size ≤ 9 + s.size := by rw [← hz, ByteArray.size_append]; omega
  have HZ : Hid (z.data.toList = textB s.data.toList) := by
    have e0 : z.data.toList = textB s.data.toList := by rw [← hz, hy]; simp [textB]
    exact e0
  clear h hy h9
  go_enter Tryz.func64, Tryz.ntmps64
  go_wp2_with fail
  refine HP.out.mono ?_
  rintro e w1 ⟨rfl, hb1⟩
  have HW := Lib.hid (fun piece => put_any B b l piece z w1 (H.out.below hb1) (by omega) (Nat.le_trans hB hb1.size))
  have HB1 := Lib.hid hb1
  clear hb1
  go_wp2_with (go_at_call 62; refine (HW.out _).mono ?_; rintro e w' ⟨rfl, h2, hb2, hk2⟩; have H2 := Lib.hid h2; have HB2 := Lib.hid hb2; have HK2 := Lib.hid hk2; clear h2 hb2 hk2)
  go_end0
  exact ⟨rfl, by rw [← HZ.out]; exact H2.out, (HB1.out.mono hB).trans HB2.out, (KeepT.of_below HB1.out).trans HK2.out⟩
set_option maxRecDepth 100000 in
theorem WRow_any (B b : Nat) (l : List UInt8) (A : Option Addr) (c : Nat) (d : Array Int) (w : World) (h : Wrt B b l w) (hr : RdI w.heap.size w A d) (hd : LayN d) (hs : d.size ≤ 10000) (hl : l.length ≤ 900000000) (hB : B ≤ w.heap.size) :
    Calls Tryz.prog 67 #[.pointer (some ⟨b, 0, none⟩), .slice A d.size c] w fun e w' => e = .returned (.tuple #[]) ∧ Wrt B b (l ++ rowB (nats d)) w' ∧ Below B w w' ∧ KeepT b w w' := by
  have h9 := numB_len d.size (by omega)
  have hfl := flat_len_M (nats d) hd.nats
  rw [nats_len] at hfl
  have HP := Lib.hid (Row_any A c d w hr hd hs)
  have H := Lib.hid h
  obtain ⟨y, hy⟩ : ∃ y : ByteArray, y = ⟨(rowB (nats d)).toArray⟩ := ⟨_, rfl⟩
  have hys : y.size ≤ 100000 := by rw [hy, str_size]; unfold rowB; rw [List.length_append, nats_len]; omega
  rw [← hy] at HP
  have HY : Hid (y.data.toList = rowB (nats d)) := by
    have e0 : y.data.toList = rowB (nats d) := by rw [hy]
    exact e0
  clear h hy h9 hfl hr hd
  go_enter Tryz.func67, Tryz.ntmps67
  go_wp2_with fail
  refine HP.out.mono ?_
  rintro e w1 ⟨rfl, hb1⟩
  have HW := Lib.hid (fun piece => put_any B b l piece y w1 (H.out.below hb1) (by omega) (Nat.le_trans hB hb1.size))
  have HB1 := Lib.hid hb1
  clear hb1
  go_wp2_with (go_at_call 62; refine (HW.out _).mono ?_; rintro e w' ⟨rfl, h2, hb2, hk2⟩; have H2 := Lib.hid h2; have HB2 := Lib.hid hb2; have HK2 := Lib.hid hk2; clear h2 hb2 hk2)
  go_end0
  exact ⟨rfl, by rw [← HY.out]; exact H2.out, (HB1.out.mono hB).trans HB2.out, (KeepT.of_below HB1.out).trans HK2.out⟩
theorem row_cell {w : World} {g : Nat} {d : Array Int} (h : w.heap[g]? = some (.cells (d.map encI) 3 (0, 0))) {k : Nat} (hk : k < d.size) : w.cell? ⟨g, k, none⟩ = some (.int .i64 d[k]!) := by
  rw [heap_cell h, Array.getElem?_map, Array.getElem?_eq_getElem hk, getElem!_pos d k hk]; rfl
set_option maxRecDepth 100000 in
set_option maxHeartbeats 1000000 in
theorem WNum_any (B b : Nat) (l : List UInt8) (g c : Nat) (d : Array Int) (w : World) (h : Wrt B b l w) (hg : w.heap[g]? = some (.cells (d.map encI) 3 (0, 0))) (hd : LayN d) (hs : d.size ≤ 10000) (hl : l.length ≤ 900000000) (hB : B ≤ w.heap.size) (hne : g ≠ b) :
    Calls Tryz.prog 22 #[.pointer (some ⟨b, 0, none⟩), .slice (some ⟨g, 0, none⟩) d.size c] w fun e w' => e = .returned (.tuple #[]) ∧ Wrt B b (l ++ (nats d).flatMap numB) w' ∧ Below B w w' ∧ KeepT b w w' := by
  have H := Lib.hid h
  have HG := Lib.hid hg
  have HD := Lib.hid hd
  clear h hg hd
  go_enter Tryz.func22, Tryz.ntmps22
  go_wp2
  go_loopw [13] (fun i wr => ∃ k : Nat, i = .int .i64 k ∧ k ≤ d.size ∧ Hid (Wrt B b (l ++ ((nats d).take k).flatMap numB) wr) ∧ Hid (Below B w wr) ∧ Hid (KeepT b w wr)) (fun i _ => d.size - (intOf i).toNat)
  case atStart => exact ⟨0, rfl, Nat.zero_le _, Lib.hid (by simpa using H.out), Lib.hid (Below.refl B w), Lib.hid (KeepT.refl b w)⟩
  case round =>
    obtain ⟨k, rfl, hk, hX, hBe, hKe⟩ := hrel
    by_cases hlt : k < d.size
    · have kz : (k : Int) < (d.size : Int) := by omega
      have hc := row_cell (hKe.out _ _ _ _ hne (by decide) HG.out) hlt
      have hx := HD.out k hlt
      obtain ⟨n, hn⟩ : ∃ n : Nat, d[k]! = (n : Int) := ⟨d[k]!.toNat, by omega⟩
      rw [hn] at hc
      have hn2 : n ≤ 9223372036854775807 := by omega
      have HN : Hid (d[k]!.toNat = n) := by show _ = _; rw [hn]; simp
      have h9 := numB_len n hn2
      have htl := take_len d HD.out k
      have hsz := hBe.out.size
      have HP := Lib.hid (Put_any n wr hn2)
      have HW := Lib.hid (fun (piece : ByteArray) (w1 : World) (hb1 : Below wr.heap.size wr w1) => put_any B b _ piece ⟨(numB n).toArray⟩ w1 (hX.out.below hb1) (by rw [str_size, List.length_append]; omega) (Nat.le_trans (Nat.le_trans hB hsz) hb1.size))
      clear hx hn htl hn2 h9
      go_wp2_with (first | (go_at_call 63; refine HP.out.mono ?_; rintro e w1 ⟨rfl, hb1⟩; have HB1 := Lib.hid hb1; clear hb1) | (go_at_call 62; refine (HW.out _ _ HB1.out).mono ?_; rintro e w' ⟨rfl, h2, hb2, hk2⟩; have H2 := Lib.hid h2; have HB2 := Lib.hid hb2; have HK2 := Lib.hid hk2; clear h2 hb2 hk2))
      go_roundw
      case rel =>
        refine ⟨k + 1, by go_num, by omega, ?_, Lib.hid ((hBe.out.trans (HB1.out.mono (Nat.le_trans hB hsz))).trans HB2.out), Lib.hid ((hKe.out.trans (KeepT.of_below HB1.out)).trans HK2.out)⟩
        have := H2.out
        rw [nats_take d k hlt, HN.out]
        exact Lib.hid (by simpa using this)
      case measure => simp [intOf]; omega
    · obtain rfl : k = d.size := by omega
      rw [nats_all] at hX
      have hlt' : ¬ (d.size : Int) < (d.size : Int) := by omega
      go_wp2
      go_end0
      exact ⟨rfl, hX.out, hBe.out, hKe.out⟩
set_option maxRecDepth 100000 in
theorem WDone_any (B b : Nat) (l : List UInt8) (w : World) (h : Wrt B b l w) (h0 : l ≠ []) :
    Calls Tryz.prog 28 #[.pointer (some ⟨b, 0, none⟩)] w fun e w' => e = .returned (.tuple #[.string ⟨l.toArray⟩, .nilIface]) ∧ Below B w w' := by
  have hf : w.cell? ⟨b, 2, none⟩ = some .nilIface := Bld.field h 0
  have HW := Lib.hid (String_any 65 [.nilIface] B b l w h h0)
  clear h h0
  go_enter Tryz.func28, Tryz.ntmps28
  go_wp2_with (go_at_call 70; refine HW.out.mono ?_; rintro e w' ⟨rfl, hb2⟩; have HB2 := Lib.hid hb2; clear hb2)
  go_ret2
  exact ⟨rfl, HB2.out⟩
end Go.Proofs.YtnmojicfmcbgmaaGreatDoor
namespace Go.Proofs.YtnmojicfmcbgmaaGreatDoor
open Go.RowKit Go.Sort Go.Lib Go.Maps
section
variable {H : Type} {P : Program} {w : World}
theorem plainElem_bool_inv {e : TypeId} (he : P.underlying e = some .bool) {v : Value} {z : DataW H × List MemPlace} (h : plainElem P e v = some z) : ∃ x, v = .bool x ∧ z = (.lit (.bool x), []) := by
  unfold plainElem at h
  rw [he] at h
  split at h
  · cases h; exact ⟨_, rfl, rfl⟩
  · rename_i h1; cases h1
  · rename_i h1; cases h1
  · cases h
theorem own_lookup_bool {t e k : TypeId} {b n : Nat} {D : DataW H} (h : w.ownsMap P k (plainElem P e) b n D) (K : Keyed P k) (ht : P.underlying t = some (.map k e)) (he : P.underlying e = some .bool) (hz : (zeroValue e).run P w = .ok (.bool false) w)
    {key : Value} {kl : Lit} (hkey : keyOf P k key = some kl) : ∃ x, (Instr.lookup t (.map (some b)) key false).run P w = .ok (.bool x) w ∧ D.atKey kl (.lit (.bool false)) = .lit (.bool x) := by
  obtain ⟨v, ps, hrun, hv⟩ := h.lookup K ht hz (plainElem_bool he false) hkey
  obtain ⟨x, rfl, hx⟩ := plainElem_bool_inv he hv
  simp only [Prod.mk.injEq] at hx
  exact ⟨x, hrun, hx.1⟩
end
/-- The set of these numbers, as a map's datum. -/
def seenD (ids : List Int) : DataW Unit := ids.foldl (fun D id => D.put (.int .i64 id) (.lit (.bool true))) (.map [])
theorem isMap_put {D : DataW Unit} (h : IsMap D) (k : Lit) (d : DataW Unit) : IsMap (D.put k d) := by
  obtain ⟨es, rfl⟩ := h
  exact ⟨_, rfl⟩
theorem seen_from (id : Int) (hw : (Lit.int .i64 id).wf = true) : ∀ (ids : List Int) (D : DataW Unit), IsMap D → (ids.foldl (fun D id => D.put (.int .i64 id) (.lit (.bool true))) D).atKey (.int .i64 id) (.lit (.bool false)) = if ids.contains id = true then .lit (.bool true) else D.atKey (.int .i64 id) (.lit (.bool false))
  | [], D, _ => by simp
  | x :: r, D, hD => by
    rw [List.foldl_cons, seen_from id hw r _ (isMap_put hD _ _)]
    by_cases h : r.contains id = true
    · rw [if_pos h, if_pos (by rw [List.contains_cons, h, Bool.or_true])]
    · rw [if_neg h]
      by_cases hx : id = x
      · subst hx
        rw [atKey_put_same hD (by first | exact hw | trivial | (unfold WideAt.IsKeyLit; simp)), if_pos (by simp)]
      · rw [atKey_put_other (by intro e; injection e with _ e; exact hx e), if_neg]
        rw [List.contains_cons]
        simp only [Bool.or_eq_true, not_or]
        exact ⟨by simpa using hx, h⟩
theorem seen_at (ids : List Int) (id : Int) (hw : (Lit.int .i64 id).wf = true) : (seenD ids).atKey (.int .i64 id) (.lit (.bool false)) = .lit (.bool (ids.contains id)) := by
  unfold seenD
  rw [seen_from id hw ids _ ⟨[], rfl⟩]
  cases h : ids.contains id
  · rw [if_neg Bool.false_ne_true]; rfl
  · rw [if_pos rfl]
theorem seen_snoc (ids : List Int) (x : Int) : seenD (ids ++ [x]) = (seenD ids).put (.int .i64 x) (.lit (.bool true)) := by
  unfold seenD
  rw [List.foldl_append]
  rfl
end Go.Proofs.YtnmojicfmcbgmaaGreatDoor
namespace Go.Proofs.YtnmojicfmcbgmaaGreatDoor
open Go.RowKit Go.Sort Go.Lib Go.Maps
set_option maxRecDepth 100000
/-- May promise i stand where it stands? -/
def clkAt (now floor : Int) (d : Array (Int × Int)) (i : Nat) : Bool :=
  decide (floor < d[i]!.1 ∧ (0 < i → d[i - 1]!.1 < d[i]!.1) ∧ d[i]!.1 ≤ now) && decide (10 ≤ d[i]!.2 ∧ d[i]!.2 ≤ 999999 ∧ d[i]!.2 % 10 ≠ 0) && !((d.toList.take i).map Prod.snd).contains d[i]!.2
def clkB (now floor : Int) (d : Array (Int × Int)) : Bool := decide (0 ≤ floor ∧ floor ≤ now ∧ now ≤ 1000000) && (List.range d.size).all fun i => clkAt now floor d i
def clkE (now floor : Int) (d : Array (Int × Int)) : Int := if clkB now floor d = true then 0 else 2
theorem clk_iff {now floor : Int} {d : Array (Int × Int)} : clkB now floor d = true ↔ (0 ≤ floor ∧ floor ≤ now ∧ now ≤ 1000000) ∧ ∀ i, i < d.size → clkAt now floor d i = true := by
  unfold clkB
  rw [Bool.and_eq_true, decide_eq_true_eq, List.all_eq_true]
  constructor
  · rintro ⟨h, g⟩; exact ⟨h, fun i hi => g i (List.mem_range.2 hi)⟩
  · rintro ⟨h, g⟩; exact ⟨h, fun i hi => g i (List.mem_range.1 hi)⟩
theorem clkE_yes {now floor : Int} {d : Array (Int × Int)} (h : 0 ≤ floor ∧ floor ≤ now ∧ now ≤ 1000000) (g : ∀ i, i < d.size → clkAt now floor d i = true) : clkE now floor d = 0 := by
  unfold clkE; rw [if_pos (clk_iff.2 ⟨h, g⟩)]
theorem clkE_no {now floor : Int} {d : Array (Int × Int)} (i : Nat) (hi : i < d.size) (h : clkAt now floor d i = false) : clkE now floor d = 2 := by
  unfold clkE
  rw [if_neg]
  intro hc
  rw [(clk_iff.1 hc).2 i hi] at h
  cases h
theorem clkE_out {now floor : Int} {d : Array (Int × Int)} (h : ¬ (0 ≤ floor ∧ floor ≤ now ∧ now ≤ 1000000)) : clkE now floor d = 2 := by
  unfold clkE
  rw [if_neg]
  intro hc
  exact h (clk_iff.1 hc).1
/-- The last time ahead of promise k. -/
def lastT (floor : Int) (d : Array (Int × Int)) (k : Nat) : Int := if k = 0 then floor else d[k - 1]!.1
def idsU (d : Array (Int × Int)) (k : Nat) : List Int := (d.toList.take k).map Prod.snd
theorem idsU_succ {d : Array (Int × Int)} {k : Nat} (h : k < d.size) : idsU d (k + 1) = idsU d k ++ [d[k]!.2] := by
  unfold idsU
  rw [List.take_add_one, List.map_append, List.getElem?_eq_getElem (by simpa using h)]
  simp [getElem!_pos d k h]
theorem idsU_mem {d : Array (Int × Int)} {k : Nat} (h : k ≤ d.size) {n : Int} : (idsU d k).contains n = true ↔ ∃ j, j < k ∧ d[j]!.2 = n := by
  unfold idsU
  rw [List.contains_iff_mem, List.mem_map]
  constructor
  · rintro ⟨x, hx, rfl⟩
    obtain ⟨j, hj, e⟩ := List.mem_iff_getElem.1 hx
    have hj' : j < k ∧ j < d.size := by simp at hj; omega
    refine ⟨j, hj'.1, ?_⟩
    rw [getElem!_pos d j hj'.2, ← e]
    simp
  · rintro ⟨j, hj, rfl⟩
    refine ⟨d[j]!, List.mem_iff_getElem.2 ⟨j, by simp; omega, ?_⟩, rfl⟩
    rw [getElem!_pos d j (by omega)]
    simp
/-- One test at promise k, the ones ahead of it being right. -/
theorem clkAt_eq {now floor : Int} {d : Array (Int × Int)} {k : Nat} (_hk : k < d.size) (hall : ∀ j, j < k → clkAt now floor d j = true) :
    clkAt now floor d k = (decide (lastT floor d k < d[k]!.1 ∧ d[k]!.1 ≤ now) && decide (10 ≤ d[k]!.2 ∧ d[k]!.2 ≤ 999999 ∧ d[k]!.2 % 10 ≠ 0) && !(idsU d k).contains d[k]!.2) := by
  have hl : decide (floor < d[k]!.1 ∧ (0 < k → d[k - 1]!.1 < d[k]!.1) ∧ d[k]!.1 ≤ now) = decide (lastT floor d k < d[k]!.1 ∧ d[k]!.1 ≤ now) := by
    unfold lastT
    rcases Nat.eq_zero_or_pos k with h | h
    · subst h; simp
    · rw [if_neg (by omega)]
      have hp := hall (k - 1) (by omega)
      unfold clkAt at hp
      simp only [Bool.and_eq_true, decide_eq_true_eq] at hp
      have h1 := hp.1.1.1
      congr 1
      apply propext
      constructor
      · rintro ⟨_, b, c⟩; exact ⟨b h, c⟩
      · rintro ⟨b, c⟩; exact ⟨by omega, fun _ => b, c⟩
  show (decide _ && decide _ && !(idsU d k).contains d[k]!.2) = _
  rw [hl]
end Go.Proofs.YtnmojicfmcbgmaaGreatDoor
