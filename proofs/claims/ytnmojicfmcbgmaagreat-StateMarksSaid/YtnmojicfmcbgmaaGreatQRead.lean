/- Slices that read as arrays of elements of k cells. A command at a replica, an answer: what they hold in memory; their small tests: phase.Open, Settled, Proposed, Check, entry.within, entry.answer, rubatoref20.ack. The value model of a replica: its rows, its eighteen cells. Sets of replicas counted; bits. Contracts of the layer 'ranges': Check. Contracts of the layer 'ranges' and of the document's: Check, in, within, Has, Count, Prefix. Contracts of the layer 'ranges' and of the document's: in, within, Has, Count, Prefix. Contracts of the layer 'ranges' and of the document's: Count, Prefix. Slices of ints that read as arrays; sizes of majorities; sets of replicas. Contracts of the layer 'stable': Check, Of, Least, and the document's. Lists of numbers held against each other; the least mark; whose marks are at least a time. Contracts of the document's side of the layer 'stable': Check, many, Of, Least. -/
import Derived.Shelf.GgSortFunc.RowK
import Derived.Test.YtnmojicfmcbgmaaGreatQBase
import Derived.Test.YtnmojicfmcbgmaaGreatShelf
namespace Go.Proofs.YtnmojicfmcbgmaaGreat
open Go.RowKit Go.Sort

/-! slices that read as arrays of elements of k cells -/
section
variable {α : Type} [Inhabited α] {enc : α → List Value} {k : Nat} {w w' : World} {A : Option Addr} {d : Array α} {B : Nat}
/-- The slice at A, of d.size elements, reads as d, and lies below block B. -/
def RdK (enc : α → List Value) (k : Nat) (B : Nat) (w : World) (A : Option Addr) (d : Array α) : Prop :=
  0 < d.size → ∃ b off, A = some ⟨b, off, none⟩ ∧ b < B ∧ ∀ t, t < d.size * k → w.cell? ⟨b, off + t, none⟩ = some (flatK enc k d)[t]!
theorem RdK.below (h : RdK enc k B w A d) (hb : Below B w w') : RdK enc k B w' A d := fun h0 => by
  obtain ⟨b, off, e, hlt, hc⟩ := h h0
  exact ⟨b, off, e, hlt, fun t ht => (hb.cell (p := ⟨b, off + t, none⟩) hlt).trans (hc t ht)⟩
theorem RdK.mono {B' : Nat} (h : RdK enc k B w A d) (hB : B ≤ B') : RdK enc k B' w A d := fun h0 => by
  obtain ⟨b, off, e, hlt, hc⟩ := h h0
  exact ⟨b, off, e, by omega, hc⟩
theorem RdK.alloc (h : RdK enc k B w A d) (hB : B ≤ w.heap.size) (o : Obj) : RdK enc k B (w.alloc o) A d := h.below ((Below.refl _ _).alloc hB o)
theorem flat_at (enc : α → List Value) (k : Nat) (d : Array α) (i c : Nat) (hi : i < d.size) (hc : c < k) : (flatK enc k d)[i * k + c]! = (enc d[i]!)[c]! := by
  have lt : i * k + c < d.size * k := by
    have := Nat.mul_le_mul_right k (show i + 1 ≤ d.size from hi); rw [Nat.add_mul, Nat.one_mul] at this; omega
  have e1 : (i * k + c) / k = i := (blk_iff k i _ (by omega)).1 ⟨by omega, by omega⟩
  have e2 : (i * k + c) % k = c := by rw [Nat.mod_eq_sub_div_mul, e1]; omega
  rw [get_flatK _ _ _ _ lt, e1, e2]
theorem lt_flat {i c n k : Nat} (hi : i < n) (hc : c < k) : i * k + c < n * k := by
  have := Nat.mul_le_mul_right k (show i + 1 ≤ n from hi); rw [Nat.add_mul, Nat.one_mul] at this; omega
/-- The cells of element i. -/
theorem RdK.at_ (h : RdK enc k B w A d) {i : Nat} (hi : i < d.size) : ∃ b off, A = some ⟨b, off, none⟩ ∧ b < B ∧ ∀ c, c < k → w.cell? ⟨b, off + i * k + c, none⟩ = some (enc d[i]!)[c]! := by
  obtain ⟨b, off, e, hlt, hc⟩ := h (by omega)
  exact ⟨b, off, e, hlt, fun c hck => by rw [Nat.add_assoc, hc _ (lt_flat hi hck), flat_at _ _ _ _ _ hi hck]⟩
theorem RdK.of_holds {b off : Nat} (h : HoldsK enc k w b off d) (hb : b < B) : RdK enc k B w (some ⟨b, off, none⟩) d := fun _ =>
  ⟨b, off, rfl, hb, fun t ht => (h t (by rw [size_flatK]; exact ht)).1⟩
/-- A row of the call's own, not nil, holds its elements. -/
theorem holds_of_owns {base : Nat} {e : TypeId} {v : Value} (h : w.ownsRow base e k v d.size (flatK enc k d).toList) (hn : v ≠ .slice none 0 0) :
    ∃ g cap, v = .slice (some ⟨g, 0, none⟩) d.size cap ∧ base ≤ g ∧ g < w.heap.size ∧ HoldsK enc k w g 0 d := by
  obtain ⟨_, ⟨h1, _⟩ | ⟨g, cap, cur, hv, hb, hh, hnc, hmx, hcur, htk⟩⟩ := h
  · exact absurd h1 hn
  · have hlt : g < w.heap.size := by
      rcases Nat.lt_or_ge g w.heap.size with h | h
      · exact h
      · rw [Array.getElem?_eq_none h] at hh; cases hh
    refine ⟨g, cap, hv, hb, hlt, fun t ht => ?_⟩
    rw [size_flatK] at ht
    have e1 : cur.toList[t]? = (flatK enc k d).toList[t]? := by rw [← htk, List.getElem?_take_of_lt ht]
    have e2 : (flatK enc k d).toList[t]? = some (flatK enc k d)[t]! := by
      have : t < (flatK enc k d).size := by rw [size_flatK]; exact ht
      rw [Array.getElem?_toList, Array.getElem?_eq_getElem this, getElem!_pos _ t this]
    rw [e2, Array.getElem?_toList] at e1
    exact ⟨by simp [World.cell?, hh, e1], by simp [World.frozen?, hh]⟩
theorem cell_new (w : World) (cs : Array Value) (e : TypeId) (t : Nat) : (w.alloc (.cells cs e)).cell? ⟨w.heap.size, t, none⟩ = cs[t]? := by
  have : (w.alloc (.cells cs e)).heap[w.heap.size]? = some (.cells cs e (0, 0)) := by show (w.heap.push _)[w.heap.size]? = _; simp
  unfold World.cell?
  simp only [this]
  rfl
theorem new_cells (w : World) (enc : α → List Value) (k : Nat) (d : Array α) (e : TypeId) (cs : Array Value) (h : cs = flatK enc k d) (t : Nat) (ht : t < d.size * k) : (w.alloc (.cells cs e)).cell? ⟨w.heap.size, 0 + t, none⟩ = some (flatK enc k d)[t]! := by
  have hs : t < (flatK enc k d).size := by rw [size_flatK]; exact ht
  rw [cell_new, Nat.zero_add, h, Array.getElem?_eq_getElem hs, getElem!_pos _ t hs]
theorem RdK.new (w : World) (enc : α → List Value) (k : Nat) (d : Array α) (e : TypeId) (cs : Array Value) (h : cs = flatK enc k d) : RdK enc k (w.heap.size + 1) (w.alloc (.cells cs e)) (some ⟨w.heap.size, 0, none⟩) d := fun _ =>
  ⟨_, _, rfl, Nat.lt_succ_self _, fun t ht => new_cells w enc k d e cs h t ht⟩
end
end Go.Proofs.YtnmojicfmcbgmaaGreat
namespace Go.Proofs.YtnmojicfmcbgmaaGreat
open Go.RowKit Go.Sort Go.Lib
/-- An answer. -/
structure AK where
  kind : Int
  frm : Int
  bal : Int
  t : Int
  abal : Int
  ph : Int
instance : Inhabited AK := ⟨⟨0, 0, 0, 0, 0, 0⟩⟩
def encK (a : AK) : List Value := [.int .i64 a.kind, .int .i64 a.frm, .int .i64 a.bal, .int .i64 a.t, .int .i64 a.abal, .int .i64 a.ph]
theorem encK_len (x : AK) : (encK x).length = 6 := rfl
/-- A command at a replica, with its answers' slice. -/
structure EN where
  id : Int
  ph : Int
  qu : Int
  t : Int
  bal : Int
  abal : Int
  seen : Int
  age : Int
  pay : ByteArray
  A : Option Addr
  c : Nat
  z : Array AK
instance : Inhabited EN := ⟨⟨0, 0, 0, 0, 0, 0, 0, 0, ByteArray.empty, none, 0, #[]⟩⟩
def encE (e : EN) : List Value := [.int .i64 e.id, .int .i64 e.ph, .int .i64 e.qu, .int .i64 e.t, .int .i64 e.bal, .int .i64 e.abal, .int .i64 e.seen, .int .i64 e.age, .string e.pay, .slice e.A e.z.size e.c]
theorem encE_len (x : EN) : (encE x).length = 10 := rfl
theorem encE_1 (x : EN) : ∀ u ∈ encE x, u.oneCell' = true := by intro u hu; simp [encE] at hu; rcases hu with rfl | rfl | rfl | rfl | rfl | rfl | rfl | rfl | rfl | rfl <;> rfl
/-- A command's answers are read. -/
structure RdE0 (w : World) (e : EN) : Prop where
  rd : RdK encK 6 w.heap.size w e.A e.z
  cz : e.z.size ≤ e.c
theorem RdE0.below {w w' : World} {e : EN} (h : RdE0 w e) (hb : Below w.heap.size w w') : RdE0 w' e := ⟨(h.rd.below hb).mono hb.size, h.cz⟩
/-- .. and it is small. -/
structure RdE (w : World) (e : EN) : Prop where
  rd : RdK encK 6 w.heap.size w e.A e.z
  cz : e.z.size ≤ e.c
  sz : e.z.size ≤ 100
  pz : e.pay.size ≤ 1000
theorem RdE.below {w w' : World} {e : EN} (h : RdE w e) (hb : Below w.heap.size w w') : RdE w' e := ⟨(h.rd.below hb).mono hb.size, h.cz, h.sz, h.pz⟩
theorem RdE0.few {w : World} {e : EN} (h : RdE0 w e) (sz : e.z.size ≤ 100) (pz : e.pay.size ≤ 1000) : RdE w e := ⟨h.rd, h.cz, sz, pz⟩
def openB (p : Int) : Bool := decide (1 ≤ p ∧ p ≤ 4)
def setlB (p : Int) : Bool := decide (p = 5 ∨ p = 6)
def propB (p : Int) : Bool := decide (2 ≤ p ∧ p ≤ 4)
def withB (n top : Int) : Bool := decide (0 ≤ n ∧ n ≤ top)
def ackB (a : AK) : Bool := decide (1 ≤ a.kind ∧ a.kind ≤ 3 ∧ 1 ≤ a.frm ∧ a.frm ≤ 9 ∧ 0 ≤ a.t ∧ a.t ≤ 1000000 ∧ 0 ≤ a.bal ∧ a.bal ≤ 1000000 ∧ 0 ≤ a.abal ∧ a.abal ≤ 1000000 ∧ 0 ≤ a.ph ∧ a.ph ≤ 6)
theorem ret_dec {p : Prop} [Decidable p] {b : Bool} (h : b = true ↔ p) : Ending.returned (.bool b) = .returned (.bool (decide p)) := by
  rw [show b = decide p by cases b <;> simp_all]
set_option maxRecDepth 100000
theorem phOpen_any (p : Int) (w : World) : Calls Tryz.prog 160 #[.int .i64 p] w fun e w' => e = .returned (.bool (openB p)) ∧ w' = w := by
  go_enter Tryz.func160, Tryz.ntmps160
  go_wp2
  all_goals
    go_ret
    exact ⟨ret_dec (by simp <;> omega), rfl⟩
theorem phSetl_any (p : Int) (w : World) : Calls Tryz.prog 151 #[.int .i64 p] w fun e w' => e = .returned (.bool (setlB p)) ∧ w' = w := by
  go_enter Tryz.func151, Tryz.ntmps151
  go_wp2
  all_goals
    go_ret
    exact ⟨ret_dec (by simp <;> omega), rfl⟩
theorem phProp_any (p : Int) (w : World) : Calls Tryz.prog 181 #[.int .i64 p] w fun e w' => e = .returned (.bool (propB p)) ∧ w' = w := by
  go_enter Tryz.func181, Tryz.ntmps181
  go_wp2
  all_goals
    go_ret
    exact ⟨ret_dec (by simp <;> omega), rfl⟩
def phE (p : Int) : Int := if 0 ≤ p ∧ p ≤ 6 then 0 else 2
theorem phE_eq (p : Int) : (phE p == 0) = decide (0 ≤ p ∧ p ≤ 6) := by
  unfold phE
  by_cases h : 0 ≤ p ∧ p ≤ 6
  · rw [if_pos h]; simp [h]
  · rw [if_neg h]; simp; omega
theorem phChk_any (p : Int) (w : World) : Calls Tryz.prog 204 #[.int .i64 p] w fun e w' => e = .returned (.int .i64 (phE p)) ∧ w' = w := by
  go_enter Tryz.func204, Tryz.ntmps204
  go_wp2
  all_goals
    go_ret
    refine ⟨ret_int ?_, rfl⟩
    unfold phE
    first | (rw [if_pos (by omega)]) | (rw [if_neg (by omega)])
theorem within_any (n top : Int) (w : World) : Calls Tryz.prog 180 #[.int .i64 n, .int .i64 top] w fun e w' => e = .returned (.bool (withB n top)) ∧ w' = w := by
  go_enter Tryz.func180, Tryz.ntmps180
  go_wp2
  all_goals
    go_ret
    exact ⟨ret_dec (by simp <;> omega), rfl⟩
set_option maxHeartbeats 4000000 in
theorem answer_any (a : AK) (w : World) : Calls Tryz.prog 184 #[.agg (encK a).toArray] w fun e w' => e = .returned (.bool (ackB a)) ∧ Below w.heap.size w w' := by
  have hb : Below w.heap.size w (w.alloc (.cells (encK a).toArray 127)) := bel1 w _
  have HP := Lib.hid (phE_eq a.ph)
  obtain ⟨kind, frm, bal, t, abal, ph⟩ := a
  simp only [encK] at hb ⊢
  go_enter Tryz.func184, Tryz.ntmps184
  go_wp2_with (first | (go_at_call 180; refine (within_any _ _ _).mono ?_; rintro e w' ⟨rfl, rfl⟩) | (go_at_call 204; refine (phChk_any _ _).mono ?_; rintro e w' ⟨rfl, rfl⟩))
  all_goals
    go_ret
    refine ⟨ret_dec ?_, hb⟩
    try rw [HP.out]
    simp only [withB, decide_eq_true_eq, decide_eq_false_iff_not, Bool.false_eq_true, false_iff] at *
    omega
set_option maxHeartbeats 4000000 in
theorem rAck_any (a : AK) (w : World) : Calls Tryz.prog 138 #[.agg (encK a).toArray] w fun e w' => e = .returned (.bool (ackB a)) ∧ Below w.heap.size w w' := by
  have hb : Below w.heap.size w (w.alloc (.cells (encK a).toArray 127)) := bel1 w _
  obtain ⟨kind, frm, bal, t, abal, ph⟩ := a
  simp only [encK] at hb ⊢
  go_enter Tryz.func138, Tryz.ntmps138
  go_wp2
  all_goals
    go_ret
    refine ⟨ret_dec ?_, hb⟩
    simp only [decide_eq_true_eq, Bool.false_eq_true, false_iff] at *
    omega
end Go.Proofs.YtnmojicfmcbgmaaGreat
namespace Go.Proofs.YtnmojicfmcbgmaaGreat
open Go.RowKit Go.Sort Go.Lib
/-- A slice, with what it holds. -/
structure RW (α : Type) where
  A : Option Addr
  c : Nat
  z : Array α
instance {α : Type} : Inhabited (RW α) := ⟨⟨none, 0, #[]⟩⟩
def RW.v {α : Type} (x : RW α) : Value := .slice x.A x.z.size x.c
def encW {α : Type} (x : RW α) : List Value := [x.v]
theorem encW_len {α : Type} (x : RW α) : (encW x).length = 1 := rfl
theorem encW_1 {α : Type} (x : RW α) : ∀ u ∈ encW x, u.oneCell' = true := by intro u hu; simp [encW] at hu; subst hu; rfl
/-- What is known of a replica, with its slices. -/
structure KE where
  base : Int
  r : RW (Int × Int)
  a : RW (Int × Int)
instance : Inhabited KE := ⟨⟨0, default, default⟩⟩
def encKE (k : KE) : List Value := [.int .i64 k.base, .slice k.r.A k.r.z.size k.r.c, .slice k.a.A k.a.z.size k.a.c]
theorem encKE_len (x : KE) : (encKE x).length = 3 := rfl
theorem encKE_1 (x : KE) : ∀ u ∈ encKE x, u.oneCell' = true := by intro u hu; simp [encKE] at hu; rcases hu with rfl | rfl | rfl <;> rfl
/-- An item, a session of the store. -/
structure IT where
  id : Int
  free : Int
  held : Int
  gone : Int
instance : Inhabited IT := ⟨⟨0, 0, 0, 0⟩⟩
def encIT (a : IT) : List Value := [.int .i64 a.id, .int .i64 a.free, .int .i64 a.held, .int .i64 a.gone]
theorem encIT_len (x : IT) : (encIT x).length = 4 := rfl
structure SS where
  cl : Int
  seq : Int
  rep : ByteArray
instance : Inhabited SS := ⟨⟨0, 0, ByteArray.empty⟩⟩
def encSS (a : SS) : List Value := [.int .i64 a.cl, .int .i64 a.seq, .string a.rep]
theorem encSS_len (x : SS) : (encSS x).length = 3 := rfl
/-- A replica. -/
structure RP where
  n : Int
  f : Int
  self : Int
  clock : Int
  seq : Int
  floor : Int
  ticks : Int
  e : RW EN
  o : RW (Int × Int)
  k : RW KE
  m : RW (RW Int)
  fr : RW Int
  d : RW (RW (Int × Int))
  lt : Int
  lid : Int
  count : Int
  it : RW IT
  ss : RW SS
instance : Inhabited RP := ⟨⟨0, 0, 0, 0, 0, 0, 0, default, default, default, default, default, default, 0, 0, 0, default, default⟩⟩
def encP (r : RP) : List Value := [.int .i64 r.n, .int .i64 r.f, .int .i64 r.self, .int .i64 r.clock, .int .i64 r.seq, .int .i64 r.floor, .int .i64 r.ticks,
  .slice r.e.A r.e.z.size r.e.c, .slice r.o.A r.o.z.size r.o.c, .slice r.k.A r.k.z.size r.k.c, .slice r.m.A r.m.z.size r.m.c, .slice r.fr.A r.fr.z.size r.fr.c, .slice r.d.A r.d.z.size r.d.c,
  .int .i64 r.lt, .int .i64 r.lid, .int .i64 r.count, .slice r.it.A r.it.z.size r.it.c, .slice r.ss.A r.ss.z.size r.ss.c]
end Go.Proofs.YtnmojicfmcbgmaaGreat
namespace Go.Proofs.YtnmojicfmcbgmaaGreat
open Go.RowKit Go.Sort Go.Lib

/-- How many of the first k bits are set? -/
def pcN_C (x : Nat) : Nat → Nat
  | 0 => 0
  | k + 1 => pcN_C x k + if x.testBit k then 1 else 0
def F1_C (x : Int) : Int := IntKind.u64.wrap (bits .and .u64 (x / 2) 6148914691236517205 + bits .and .u64 x 6148914691236517205)
def F2_C (y : Int) : Int := IntKind.u64.wrap (bits .and .u64 (y / 4) 3689348814741910323 + bits .and .u64 y 3689348814741910323)
def F3_C (y : Int) : Int := bits .and .u64 (y / 16 + y) 1085102592571150095
def F4_C (y : Int) : Int := bits .and .i64 (y + y / 256 + (y + y / 256) / 65536 + (y + y / 256 + (y + y / 256) / 65536) / 4294967296) 127
theorem pc_all_C : ∀ x : Fin 512, 0 ≤ F1_C (x.1 : Int) ∧ F1_C (x.1 : Int) ≤ 5000 ∧ 0 ≤ F2_C (F1_C (x.1 : Int)) ∧ F2_C (F1_C (x.1 : Int)) ≤ 5000 ∧ 0 ≤ F3_C (F2_C (F1_C (x.1 : Int))) ∧ F3_C (F2_C (F1_C (x.1 : Int))) ≤ 5000 ∧ F4_C (F3_C (F2_C (F1_C (x.1 : Int)))) = (pcN_C x.1 9 : Int) := by decide +kernel
set_option maxHeartbeats 1000000 in
theorem Ones64_any_C (x : Nat) (w : World) (h1 : x ≤ 511) :
    Calls Tryz.prog 203 #[.int .u64 x] w fun e w' => e = .returned (.int .i64 (pcN_C x 9)) ∧ w = w' := by
  obtain ⟨a1, b1, a2, b2, a3, b3, hp⟩ := pc_all_C ⟨x, by omega⟩
  have HP : Hid (F4_C (F3_C (F2_C (F1_C (x : Int)))) = (pcN_C x 9 : Int)) := hp
  simp only [] at a1 b1 a2 b2 a3 b3
  have e1 : IntKind.u64.wrap (bits .and .u64 ((x : Int) / 2) 6148914691236517205 + bits .and .u64 (x : Int) 6148914691236517205) = F1_C (x : Int) := rfl
  generalize F1_C (x : Int) = y1 at *
  have e2 : IntKind.u64.wrap (bits .and .u64 (y1 / 4) 3689348814741910323 + bits .and .u64 y1 3689348814741910323) = F2_C y1 := rfl
  generalize F2_C y1 = y2 at *
  have e3 : bits .and .u64 (y2 / 16 + y2) 1085102592571150095 = F3_C y2 := rfl
  generalize F3_C y2 = y3 at *
  have x0 : (0 : Int) ≤ x := by omega
  clear hp
  go_enter Tryz.func203, Tryz.ntmps203
  go_wp2
  go_ret
  exact ⟨ret_int (by rw [← HP.out]; rfl), rfl⟩
theorem Ones_any_C (x : Nat) (w : World) (h1 : x ≤ 511) :
    Calls Tryz.prog 179 #[.int .u64 x] w fun e w' => e = .returned (.int .i64 (pcN_C x 9)) ∧ w = w' := by
  go_enter Tryz.func179, Tryz.ntmps179
  go_wp2_with (go_at_call 203; refine (Ones64_any_C _ _ h1).mono ?_; rintro e w' ⟨rfl, rfl⟩)
  go_ret
  exact ⟨rfl, rfl⟩
theorem may_any_C (s : Int) (w : World) :
    Calls Tryz.prog 178 #[.int .i64 s] w fun e w' => e = .returned (.bool (decide (0 ≤ s ∧ s ≤ 511))) ∧ w = w' := by
  go_enter Tryz.func178, Tryz.ntmps178
  go_wp2
  all_goals
    go_ret
    exact ⟨ret_bool (by simp <;> omega), rfl⟩
theorem Count_any_C (x : Nat) (w : World) (h1 : x ≤ 511) :
    Calls Tryz.prog 161 #[.int .i64 x] w fun e w' => e = .returned (.int .i64 (pcN_C x 9)) ∧ w = w' := by
  have hm := may_any_C (x : Int)
  rw [show decide (0 ≤ (x : Int) ∧ (x : Int) ≤ 511) = true by simp; omega] at hm
  have HM := Lib.hid hm; clear hm
  go_enter Tryz.func161, Tryz.ntmps161
  go_wp2_with (first | (go_at_call 178; refine (HM.out _).mono ?_; rintro e w' ⟨rfl, rfl⟩) | (go_at_call 179; refine (Ones_any_C _ _ h1).mono ?_; rintro e w' ⟨rfl, rfl⟩))
  go_ret
  exact ⟨rfl, rfl⟩
theorem pc_pos_C : ∀ x : Fin 512, 0 < x.1 → 0 < pcN_C x.1 9 := by decide +kernel
def cntN (q : Int) : Int := if 0 ≤ q ∧ q ≤ 511 then (pcN_C q.toNat 9 : Int) else 0
theorem cntN_zero (q : Int) : (cntN q == 0) = decide (q < 1 ∨ 511 < q) := by
  unfold cntN
  by_cases h : 0 ≤ q ∧ q ≤ 511
  · rw [if_pos h]
    rcases Nat.eq_zero_or_pos q.toNat with h0 | h0
    · have hq : q = 0 := by omega
      subst hq
      rfl
    · have := pc_pos_C ⟨q.toNat, by omega⟩ h0
      simp only [] at this
      rw [decide_eq_false (by omega)]
      exact beq_eq_false_iff_ne.2 (by omega)
  · rw [if_neg h, decide_eq_true (by omega)]; rfl
theorem CountI_any (q : Int) (w : World) : Calls Tryz.prog 161 #[.int .i64 q] w fun e w' => e = .returned (.int .i64 (cntN q)) ∧ w = w' := by
  by_cases h : 0 ≤ q ∧ q ≤ 511
  · have := Count_any_C q.toNat w (by omega)
    rw [show ((q.toNat : Nat) : Int) = q by omega] at this
    unfold cntN
    rw [if_pos h]
    exact this
  · have HM := Lib.hid (fun W => may_any_C q W)
    rw [show decide (0 ≤ q ∧ q ≤ 511) = false by simp; omega] at HM
    unfold cntN
    rw [if_neg h]
    clear h
    go_enter Tryz.func161, Tryz.ntmps161
    go_wp2_with (go_at_call 178; refine (HM.out _).mono ?_; rintro e w' ⟨rfl, rfl⟩)
    go_ret
    exact ⟨rfl, rfl⟩
end Go.Proofs.YtnmojicfmcbgmaaGreat
namespace Go.Proofs.YtnmojicfmcbgmaaGreat
open Go.RowKit Go.Sort Go.Lib

def encR (x : Int × Int) : List Value := [.int .i64 x.1, .int .i64 x.2]
/-- Is the k-th range bad, or not above the one ahead of it? -/
def badAt (d : Array (Int × Int)) (k : Nat) : Bool := decide (d[k]!.1 < 1 ∨ 1000000 < d[k]!.2 ∨ d[k]!.2 < d[k]!.1 ∨ (0 < k ∧ d[k]!.1 - 1 ≤ d[k - 1]!.2))
def setE_R (d : Array (Int × Int)) : Int := if 1000 < d.size ∨ (List.range d.size).any (badAt d) = true then 2 else 0
theorem setE_bad {d : Array (Int × Int)} {k : Nat} (hk : k < d.size) (h : badAt d k = true) : setE_R d = 2 := by
  unfold setE_R; rw [if_pos]; right; rw [List.any_eq_true]; exact ⟨k, by simpa using hk, h⟩
theorem setE_big {d : Array (Int × Int)} (h : 1000 < d.size) : setE_R d = 2 := by unfold setE_R; rw [if_pos (Or.inl h)]
theorem setE_ok {d : Array (Int × Int)} (h1 : d.size ≤ 1000) (h : ∀ k, k < d.size → badAt d k = false) : setE_R d = 0 := by
  unfold setE_R; rw [if_neg]
  rintro (h' | h')
  · omega
  · rw [List.any_eq_true] at h'
    obtain ⟨k, hk, hb⟩ := h'
    rw [h k (by simpa using hk)] at hb; cases hb
theorem setE_all {d : Array (Int × Int)} (h : setE_R d = 0) : d.size ≤ 1000 ∧ ∀ k, k < d.size → badAt d k = false := by
  unfold setE_R at h
  split at h
  · cases h
  · rename_i hh
    refine ⟨by omega, fun k hk => ?_⟩
    cases hb : badAt d k
    · rfl
    · exact absurd (Or.inr (by rw [List.any_eq_true]; exact ⟨k, by simpa using hk, hb⟩)) hh
/-- The end of the range ahead of the k-th. -/
def lastN (d : Array (Int × Int)) (k : Nat) : Int := if k = 0 then -1 else d[k - 1]!.2
set_option maxHeartbeats 2000000 in
theorem gCheck_any (A : Option Addr) (c : Nat) (d : Array (Int × Int)) (w : World) (h : RdK encR 2 w.heap.size w A d) :
    Calls Tryz.prog 84 #[.slice A d.size c] w fun e w' => e = .returned (.int .i64 (setE_R d)) ∧ Below w.heap.size w w' := by
  by_cases hd : 1000 < d.size
  · have HE := Lib.hid (setE_big hd)
    have hz : (1000 : Int) < (d.size : Int) := by omega
    go_enter Tryz.func84, Tryz.ntmps84
    go_wp2
    go_ret
    exact ⟨ret_int HE.out.symm, Below.refl _ _⟩
  · have hd' : d.size ≤ 1000 := by omega
    have hz : decide ((1000 : Int) < (d.size : Int)) = false := by simp; omega
    clear hd
    have HOK := Lib.hid (setE_ok hd')
    go_enter Tryz.func84, Tryz.ntmps84
    go_wp2
    go_loopw [3, 11] (fun l i wr => ∃ k : Nat, k ≤ d.size ∧ i = .int .i64 k ∧ l = .int .i64 (lastN d k) ∧ -1 ≤ lastN d k ∧ lastN d k ≤ 1000000 ∧ (∀ j, j < k → badAt d j = false) ∧ Below w.heap.size w wr) (fun _ i _ => d.size - (intOf i).toNat)
    case atStart => exact ⟨0, Nat.zero_le _, rfl, rfl, by simp [lastN], by simp [lastN], fun j hj => absurd hj (by omega), Below.refl _ _⟩
    case round =>
      obtain ⟨k, hk, rfl, rfl, l1, l2, hj, hb⟩ := hrel
      have HJ := Lib.hid hj; clear hj
      by_cases hlt : k < d.size
      · obtain ⟨b, off, rfl, _, f⟩ := (h.below hb).at_ hlt
        have f0 := f 0 (by omega)
        have f1 := f 1 (by omega)
        have HB : Hid (badAt d k = decide (d[k]!.1 < 1 ∨ 1000000 < d[k]!.2 ∨ d[k]!.2 < d[k]!.1 ∨ d[k]!.1 ≤ lastN d k + 1)) := by
          show _ = _
          unfold badAt lastN
          rw [decide_eq_decide]
          by_cases h0 : k = 0
          · subst h0; simp; omega
          · rw [if_neg h0]; constructor <;> intro hh <;> omega
        have HL : Hid (lastN d (k + 1) = d[k]!.2) := by show _ = _; unfold lastN; rw [if_neg (by omega)]; rfl
        have HBB := Lib.hid (fun h => @setE_bad d k hlt h)
        generalize d[k]! = x at f0 f1 HB HL
        simp only [Nat.add_zero, encR, List.getElem!_cons_zero, List.getElem!_cons_succ] at f0 f1
        generalize lastN d k = l at *
        clear f
        have kz : (k : Int) < (d.size : Int) := by omega
        go_wp2
        all_goals first
          | (go_ret; exact ⟨ret_int (HBB.out (by rw [HB.out]; simp; omega)).symm, belAlloc hb _⟩)
          | exact ⟨⟨k + 1, by omega, by go_num, by rw [HL.out], by rw [HL.out]; omega, by rw [HL.out]; omega, fun j hj => by
              rcases Nat.lt_or_ge j k with h' | h'
              · exact HJ.out j h'
              · obtain rfl : j = k := by omega
                rw [HB.out]; simp; omega, belAlloc hb _⟩, by simp [intOf]; omega⟩
      · go_wp2
        go_ret
        exact ⟨ret_int (HOK.out fun j hj => HJ.out j (by omega)).symm, hb⟩
end Go.Proofs.YtnmojicfmcbgmaaGreat
namespace Go.Proofs.YtnmojicfmcbgmaaGreat
open Go.RowKit Go.Sort Go.Lib

set_option maxHeartbeats 4000000 in
theorem r4Check_any (A : Option Addr) (c : Nat) (d : Array (Int × Int)) (B : Nat) (w : World) (h : RdK encR 2 B w A d) :
    Calls Tryz.prog 38 #[.slice A d.size c] w fun e w' => e = .returned (.int .i64 (setE_R d)) ∧ ∃ q, w' = w.drewN q := by
  by_cases hd : 1000 < d.size
  · have HE := Lib.hid (setE_big hd)
    have hz : (1000 : Int) < (d.size : Int) := by omega
    go_enter Tryz.func38, Tryz.ntmps38
    go_wp2
    go_ret
    exact ⟨ret_int HE.out.symm, 0, rfl⟩
  · have hd' : d.size ≤ 1000 := by omega
    have hz : decide ((1000 : Int) < (d.size : Int)) = false := by simp; omega
    clear hd
    have HOK := Lib.hid (setE_ok hd')
    go_enter Tryz.func38, Tryz.ntmps38
    go_wp2
    go_loopw [3] (fun i wr => ∃ k q : Nat, k ≤ d.size ∧ i = .int .i64 k ∧ wr = w.drewN q ∧ (∀ j, j < k → badAt d j = false)) (fun i _ => d.size - (intOf i).toNat)
    case atStart => exact ⟨0, 0, Nat.zero_le _, rfl, rfl, fun j hj => absurd hj (by omega)⟩
    case round =>
      obtain ⟨k, q, hk, rfl, rfl, hj⟩ := hrel
      have HJ := Lib.hid hj; clear hj
      by_cases hlt : k < d.size
      · have hR := h
        obtain ⟨b, off, rfl, _, f⟩ := h.at_ hlt
        have f0 := f 0 (by omega)
        have f1 := f 1 (by omega)
        have HBB := Lib.hid (fun h => @setE_bad d k hlt h)
        clear f
        have kz : (k : Int) < (d.size : Int) := by omega
        cases k with
        | zero =>
          have HB : Hid (badAt d 0 = decide (d[0]!.1 < 1 ∨ 1000000 < d[0]!.2 ∨ d[0]!.2 < d[0]!.1)) := by
            show _ = _; unfold badAt; rw [decide_eq_decide]; simp
          generalize d[0]! = x at f0 f1 HB
          simp only [Nat.add_zero, Nat.zero_mul, encR, List.getElem!_cons_zero, List.getElem!_cons_succ] at f0 f1
          clear hR
          by_cases t1 : x.1 < 1
          · go_wp2_with fail
            go_quiet (fail)
            go_wp2
            go_ret
            exact ⟨ret_int (HBB.out (by rw [HB.out]; simp; omega)).symm, _, World.drewN_drewN _ _ _⟩
          have t1b : decide (x.1 < 1) = false := by simp; omega
          by_cases t2 : 1000000 < x.2
          · go_wp2_with fail
            go_quiet (fail)
            go_wp2
            go_ret
            exact ⟨ret_int (HBB.out (by rw [HB.out]; simp; omega)).symm, _, World.drewN_drewN _ _ _⟩
          have t2b : decide (1000000 < x.2) = false := by simp; omega
          by_cases t3 : x.2 < x.1
          · go_wp2_with fail
            go_quiet (fail)
            go_wp2
            go_ret
            exact ⟨ret_int (HBB.out (by rw [HB.out]; simp; omega)).symm, _, World.drewN_drewN _ _ _⟩
          have t3b : decide (x.2 < x.1) = false := by simp; omega
          go_wp2_with fail
          go_quiet (fail)
          go_wp2
          go_roundw
          case rel => exact ⟨1, _, by omega, rfl, rfl, fun j hj => by
            obtain rfl : j = 0 := by omega
            rw [HB.out]; simp; omega⟩
          case measure => simp [intOf]; omega
        | succ m =>
          have HB : Hid (badAt d (m + 1) = decide (d[m + 1]!.1 < 1 ∨ 1000000 < d[m + 1]!.2 ∨ d[m + 1]!.2 < d[m + 1]!.1 ∨ d[m + 1]!.1 - 1 ≤ d[m]!.2)) := by
            show _ = _; unfold badAt; rw [decide_eq_decide]; simp
          obtain ⟨b', off', e', _, f'⟩ := hR.at_ (i := m) (by omega)
          injection e' with e'
          injection e' with e1 e2
          subst e1 e2
          have f2 := f' 1 (by omega)
          clear f' hR
          generalize d[m + 1]! = x at f0 f1 HB
          generalize d[m]! = y at f2 HB
          simp only [Nat.add_zero, encR, List.getElem!_cons_zero, List.getElem!_cons_succ] at f0 f1 f2
          have p0 : (0 : Int) ≤ (m : Int) + 1 := by omega
          have p1 : (0 : Int) < (m : Int) + 1 := by omega
          have e0 : ((m : Int) + 1).toNat = m + 1 := by omega
          have hwp : IntKind.i64.wrap (m : Int) = (m : Int) := by rw [IntKind.wrap_i64]; omega
          have mz : (m : Int) < (d.size : Int) := by omega
          by_cases t1 : x.1 < 1
          · go_wp2_with fail
            go_quiet (fail)
            go_wp2
            go_ret
            exact ⟨ret_int (HBB.out (by rw [HB.out]; simp; omega)).symm, _, World.drewN_drewN _ _ _⟩
          have t1b : decide (x.1 < 1) = false := by simp; omega
          by_cases t2 : 1000000 < x.2
          · go_wp2_with fail
            go_quiet (fail)
            go_wp2
            go_ret
            exact ⟨ret_int (HBB.out (by rw [HB.out]; simp; omega)).symm, _, World.drewN_drewN _ _ _⟩
          have t2b : decide (1000000 < x.2) = false := by simp; omega
          by_cases t3 : x.2 < x.1
          · go_wp2_with fail
            go_quiet (fail)
            go_wp2
            go_ret
            exact ⟨ret_int (HBB.out (by rw [HB.out]; simp; omega)).symm, _, World.drewN_drewN _ _ _⟩
          have t3b : decide (x.2 < x.1) = false := by simp; omega
          have hws : IntKind.i64.wrap (x.1 - 1) = x.1 - 1 := by rw [IntKind.wrap_i64]; omega
          by_cases t4 : x.1 - 1 ≤ y.2
          · go_wp2_with fail
            go_quiet (fail)
            go_wp2
            go_ret
            exact ⟨ret_int (HBB.out (by rw [HB.out]; simp; omega)).symm, _, World.drewN_drewN _ _ _⟩
          have t4b : decide (x.1 - 1 ≤ y.2) = false := by simp; omega
          go_wp2_with fail
          go_quiet (fail)
          go_wp2
          go_roundw
          case rel => exact ⟨m + 1 + 1, _, by omega, by go_num, rfl, fun j hj => by
            rcases Nat.lt_or_ge j (m + 1) with h' | h'
            · exact HJ.out j h'
            · obtain rfl : j = m + 1 := by omega
              rw [HB.out]; simp; omega⟩
          case measure => simp [intOf]; omega
      · go_wp2
        go_ret
        exact ⟨ret_int (HOK.out fun j hj => HJ.out j (by omega)).symm, q, rfl⟩
end Go.Proofs.YtnmojicfmcbgmaaGreat
namespace Go.Proofs.YtnmojicfmcbgmaaGreat
open Go.RowKit Go.Sort Go.Lib

def inB_R (n : Int) (x : Int × Int) : Bool := decide (x.1 ≤ n ∧ n ≤ x.2)
def inR (d : Array (Int × Int)) (n : Int) : Bool := d.toList.any (inB_R n)
theorem inR_yes {d : Array (Int × Int)} {n : Int} {j : Nat} (hj : j < d.size) (h : inB_R n d[j]! = true) : inR d n = true := by
  unfold inR; rw [List.any_eq_true]; exact ⟨d[j]!, by rw [getElem!_pos d j hj]; simp, h⟩
theorem inR_no {d : Array (Int × Int)} {n : Int} (h : ∀ j, j < d.size → inB_R n d[j]! = false) : inR d n = false := by
  unfold inR; rw [List.any_eq_false]
  intro x hx
  obtain ⟨j, hj, rfl⟩ := List.mem_iff_getElem.1 hx
  have := h j (by simpa using hj)
  rw [getElem!_pos d j (by simpa using hj)] at this
  simpa using this
theorem ok_at {d : Array (Int × Int)} (h : setE_R d = 0) {k : Nat} (hk : k < d.size) : 1 ≤ d[k]!.1 ∧ d[k]!.1 ≤ d[k]!.2 ∧ d[k]!.2 ≤ 1000000 ∧ (0 < k → d[k - 1]!.2 + 1 < d[k]!.1) := by
  have := (setE_all h).2 k hk
  unfold badAt at this
  rw [decide_eq_false_iff_not] at this
  refine ⟨by omega, by omega, by omega, fun h0 => by omega⟩
theorem gmay_any (A : Option Addr) (c : Nat) (d : Array (Int × Int)) (w : World) (h : RdK encR 2 w.heap.size w A d) :
    Calls Tryz.prog 127 #[.slice A d.size c] w fun e w' => e = .returned (.bool (setE_R d == 0)) ∧ Below w.heap.size w w' := by
  go_enter Tryz.func127, Tryz.ntmps127
  go_wp2_with (go_at_call 84; refine (gCheck_any _ _ d _ h).mono ?_; rintro e w' ⟨rfl, hb⟩)
  go_ret
  exact ⟨rfl, hb⟩
theorem has1_any (n : Int) (x : Int × Int) (a : Addr) (w : World) (ha : a.block < w.heap.size) (hc : w.cell? a = some (.int .i64 n)) :
    Calls Tryz.prog 141 #[.agg #[.int .i64 x.1, .int .i64 x.2], .pointer (some a)] w fun e w' => e = .returned (.bool (inB_R n x)) ∧ Below w.heap.size w w' := by
  have hc' : ∀ o, (w.alloc o).cell? a = some (.int .i64 n) := fun o => (World.cell?_alloc_lt w o a ha).trans hc
  go_enter Tryz.func141, Tryz.ntmps141
  go_wp2
  all_goals
    go_ret
    refine ⟨ret_bool ?_, bel1 _ _⟩
    unfold inB_R
    first | (rw [Bool.eq_iff_iff, decide_eq_true_iff, decide_eq_true_iff]; omega) | (symm; rw [decide_eq_true_iff]; omega) | (symm; rw [decide_eq_false_iff_not]; omega)
set_option maxHeartbeats 1000000 in
theorem ContR_empty (A : Option Addr) (c : Nat) (fv : Value) (w : World) :
    Calls Tryz.prog 140 #[.slice A 0 c, fv] w fun e w' => e = .returned (.bool false) ∧ w = w' := by
  go_enter Tryz.func140, Tryz.ntmps140
  go_wp2
  refine wp_loop_rounds 1 ?_; rw [rounds_succ]
  go_wp2
  go_ret
  exact ⟨rfl, rfl⟩
theorem ContR (p : Int × Int → Bool) (g : Nat) (lb : Array Value) (A : Option Addr) (c : Nat) (d : Array (Int × Int)) (w : World) (h : RdK encR 2 w.heap.size w A d) (hd : d.size ≤ 100000000) (eg : ∀ args w, (callFunc g args).run Tryz.prog w = .ok (.enter g args) w) (hp : PredBelow Tryz.prog g lb (fun x : Int × Int => .agg (encR x).toArray) p w) :
    Calls Tryz.prog 140 #[.slice A d.size c, .func (.func g) #[] lb] w fun e w' => e = .returned (.bool (d.toList.any p)) ∧ Below w.heap.size w w' := by
  rcases Nat.eq_zero_or_pos d.size with h0 | h0
  · have e0 : d = #[] := Array.eq_empty_of_size_eq_zero h0
    subst e0
    exact (ContR_empty A c _ w).mono fun e w' ⟨he, hw⟩ => ⟨by rw [he]; rfl, by rw [← hw]; exact Below.refl _ _⟩
  · obtain ⟨b, off, rfl, hb, hc⟩ := h h0
    have := AnyQ.slices_ContainsFunc Tryz.laysContR 2 Tryz.isAgg81 Tryz.sizeOf81 encR (fun _ => rfl) p g lb eg b off d.size c d.toList w hp (by simp) (by omega) hb (fun j hj i v hv => by
      have hj' : j < d.size := by simpa using hj
      have hi : i < 2 := by
        rcases Nat.lt_or_ge i 2 with h' | h'
        · exact h'
        · rw [List.getElem?_eq_none (by show 2 ≤ i; exact h')] at hv; cases hv
      have e1 : d.toList[j]! = d[j]! := by simp [hj']
      rw [e1] at hv
      rw [Nat.add_assoc, hc _ (lt_flat hj' hi), flat_at _ _ _ _ _ hj' hi]
      rw [List.getElem!_eq_getElem?_getD, hv]; rfl)
    rwa [show d.toList.take d.size = d.toList from List.take_of_length_le (by simp)] at this
def hasB_R (d : Array (Int × Int)) (n : Int) : Bool := (setE_R d == 0) && inR d n
set_option maxHeartbeats 1000000 in
theorem gHas_any (A : Option Addr) (c : Nat) (d : Array (Int × Int)) (n : Int) (w : World) (h : RdK encR 2 w.heap.size w A d) :
    Calls Tryz.prog 90 #[.slice A d.size c, .int .i64 n] w fun e w' => e = .returned (.bool (hasB_R d n)) ∧ Below w.heap.size w w' := by
  have r0 := Lib.hid ((h.alloc (Nat.le_refl _) (.cells #[.int .i64 n] 3)).mono (show w.heap.size ≤ (w.alloc (.cells #[.int .i64 n] 3)).heap.size by simp))
  by_cases hs : setE_R d = 0
  · have hq : (setE_R d == 0) = true := by simp [hs]
    have hd := (setE_all hs).1
    have HH : Hid (hasB_R d n = inR d n) := by show _ = _; unfold hasB_R; rw [hq]; rfl
    clear hs
    go_enter Tryz.func90, Tryz.ntmps90
    go_wp2_with fail
    refine (gmay_any _ _ d _ r0.out).mono ?_
    rintro e w1 ⟨rfl, hb1⟩
    have hz1 : w.heap.size < w1.heap.size := by have := hb1.size; simp at this; omega
    have hc1 : w1.cell? ⟨w.heap.size, 0, none⟩ = some (.int .i64 n) := (hb1.cell (p := ⟨w.heap.size, 0, none⟩) (by simp)).trans (cell_new w _ _ 0)
    have hC : Calls Tryz.prog 140 #[.slice A d.size c, .func (.func 141) #[] #[.pointer (some ⟨w.heap.size, 0, none⟩)]] w1 fun e w' => e = .returned (.bool (inR d n)) ∧ Below w1.heap.size w1 w' := ContR (inB_R n) 141 #[.pointer (some ⟨w.heap.size, 0, none⟩)] A c d w1 ((r0.out.below hb1).mono hb1.size) (by omega) (enters_of Tryz.func141 (by kernel_rfl) rfl)
      (fun W x hbW => (has1_any n x ⟨w.heap.size, 0, none⟩ W (Nat.lt_of_lt_of_le hz1 hbW.size) ((hbW.cell (p := ⟨w.heap.size, 0, none⟩) hz1).trans hc1)).mono fun _ _ ⟨he, hb'⟩ => ⟨he, hbW.trans (hb'.mono hbW.size)⟩)
    have HC := Lib.hid hC
    clear hC hc1
    generalize inR d n = v at HC HH
    go_wp2_with fail
    refine HC.out.mono ?_
    rintro e w2 ⟨rfl, hb2⟩
    go_wp2
    go_ret
    exact ⟨ret_bool HH.out.symm, belStep (belStep (bel1 _ _) hb1) hb2⟩
  · have hq : (setE_R d == 0) = false := by simpa using hs
    have HH : Hid (hasB_R d n = false) := by show _ = _; unfold hasB_R; rw [hq]; rfl
    clear hs
    go_enter Tryz.func90, Tryz.ntmps90
    go_wp2_with fail
    refine (gmay_any _ _ d _ r0.out).mono ?_
    rintro e w1 ⟨rfl, hb1⟩
    go_wp2
    go_ret
    exact ⟨ret_bool HH.out.symm, belStep (bel1 _ _) hb1⟩
set_option maxHeartbeats 1000000 in
theorem rin_any (A : Option Addr) (c : Nat) (d : Array (Int × Int)) (n : Int) (B : Nat) (w : World) (h : RdK encR 2 B w A d) (hd : d.size ≤ 100000000) :
    Calls Tryz.prog 91 #[.slice A d.size c, .int .i64 n] w fun e w' => e = .returned (.bool (inR d n)) ∧ w = w' := by
  have HY := Lib.hid (fun j hj hb => @inR_yes d n j hj hb)
  have HN := Lib.hid (@inR_no d n)
  go_enter Tryz.func91, Tryz.ntmps91
  go_wp2
  go_loop [5] (fun i => ∃ k : Nat, k ≤ d.size ∧ i = .int .i64 k ∧ ∀ j, j < k → inB_R n d[j]! = false) (fun i => d.size - (intOf i).toNat)
  case atStart => exact ⟨0, Nat.zero_le _, rfl, fun j hj => absurd hj (by omega)⟩
  case round =>
    obtain ⟨k, hk, rfl, hj⟩ := hrel
    have HJ := Lib.hid hj; clear hj
    by_cases hlt : k < d.size
    · obtain ⟨b, off, rfl, _, f⟩ := h.at_ hlt
      have f0 := f 0 (by omega)
      have f1 := f 1 (by omega)
      have HB : Hid (inB_R n d[k]! = decide (d[k]!.1 ≤ n ∧ n ≤ d[k]!.2)) := rfl
      have HYk := Lib.hid (HY.out k hlt)
      have HNk : Hid (inB_R n d[k]! = false → ∀ j, j < k + 1 → inB_R n d[j]! = false) := fun hf j hj => by
        rcases Nat.lt_or_ge j k with h' | h'
        · exact HJ.out j h'
        · obtain rfl : j = k := by omega
          exact hf
      generalize d[k]! = x at f0 f1 HB HYk HNk
      simp only [Nat.add_zero, encR, List.getElem!_cons_zero, List.getElem!_cons_succ] at f0 f1
      clear f
      have kz : (k : Int) < (d.size : Int) := by omega
      go_wp2
      all_goals first
        | (go_ret; exact ⟨ret_bool (HYk.out (by rw [HB.out]; simp; omega)).symm, rfl⟩)
        | exact ⟨⟨k + 1, by omega, by go_num, HNk.out (by rw [HB.out]; simp; omega)⟩, by simp [intOf]; omega⟩
    · go_wp2
      go_ret
      exact ⟨ret_bool (HN.out fun j hj => HJ.out j (by omega)).symm, rfl⟩
theorem r4Has_any (A : Option Addr) (c : Nat) (d : Array (Int × Int)) (n : Int) (B : Nat) (w : World) (h : RdK encR 2 B w A d) :
    Calls Tryz.prog 40 #[.slice A d.size c, .int .i64 n] w fun e w' => e = .returned (.bool (hasB_R d n)) ∧ Below w.heap.size w w' := by
  by_cases hs : setE_R d = 0
  · have hq : (setE_R d == 0) = true := by simp [hs]
    have hd := (setE_all hs).1
    have HH : Hid (hasB_R d n = inR d n) := by show _ = _; unfold hasB_R; rw [hq]; rfl
    clear hs
    go_enter Tryz.func40, Tryz.ntmps40
    go_wp2_with fail
    refine (r4Check_any _ _ d _ _ h).mono ?_
    rintro e w1 ⟨rfl, q, rfl⟩
    go_wp2_with fail
    refine (rin_any _ _ d _ B _ (by exact h) (by omega)).mono ?_
    rintro e w2 ⟨rfl, rfl⟩
    go_wp2
    go_ret
    exact ⟨ret_bool HH.out.symm, belDrewN (Below.refl _ _) _⟩
  · have hq : (setE_R d == 0) = false := by simpa using hs
    have HH : Hid (hasB_R d n = false) := by show _ = _; unfold hasB_R; rw [hq]; rfl
    clear hs
    go_enter Tryz.func40, Tryz.ntmps40
    go_wp2_with fail
    refine (r4Check_any _ _ d _ _ h).mono ?_
    rintro e w1 ⟨rfl, q, rfl⟩
    go_wp2
    go_ret
    exact ⟨ret_bool HH.out.symm, belDrewN (Below.refl _ _) _⟩
end Go.Proofs.YtnmojicfmcbgmaaGreat
namespace Go.Proofs.YtnmojicfmcbgmaaGreat
open Go.RowKit Go.Sort Go.Lib
/-- The first range that goes on where `b` ends. -/
def preB (b : Int) (x : Int × Int) : Bool := decide (x.1 - 1 ≤ b ∧ b < x.2)
def preE (d : Array (Int × Int)) (b : Int) : Int := if setE_R d = 0 then ((d.toList.find? (preB b)).map (·.2)).getD b else b
theorem preE_at {d : Array (Int × Int)} {b : Int} {k : Nat} (hs : setE_R d = 0) (hk : k < d.size) (hj : ∀ j, j < k → preB b d[j]! = false) (h : preB b d[k]! = true) : preE d b = d[k]!.2 := by
  unfold preE
  rw [if_pos hs]
  have : d.toList.find? (preB b) = some d[k]! := by
    rw [List.find?_eq_some_iff_getElem]
    refine ⟨h, k, by simpa using hk, by rw [getElem!_pos d k hk]; simp, fun j hj' => ?_⟩
    have := hj j hj'
    rw [getElem!_pos d j (by omega)] at this
    simpa using this
  rw [this]; rfl
theorem preE_no {d : Array (Int × Int)} {b : Int} (hj : ∀ j, j < d.size → preB b d[j]! = false) : preE d b = b := by
  unfold preE
  split
  · have : d.toList.find? (preB b) = none := by
      rw [List.find?_eq_none]
      intro x hx
      obtain ⟨j, hj', rfl⟩ := List.mem_iff_getElem.1 hx
      have := hj j (by simpa using hj')
      rw [getElem!_pos d j (by simpa using hj')] at this
      simpa using this
    rw [this]; rfl
  · rfl
theorem preE_bad {d : Array (Int × Int)} {b : Int} (hs : setE_R d ≠ 0) : preE d b = b := by unfold preE; rw [if_neg hs]
set_option maxHeartbeats 2000000 in
theorem gPrefix_any (A : Option Addr) (c : Nat) (d : Array (Int × Int)) (n : Int) (w : World) (h : RdK encR 2 w.heap.size w A d) :
    Calls Tryz.prog 146 #[.slice A d.size c, .int .i64 n] w fun e w' => e = .returned (.int .i64 (preE d n)) ∧ Below w.heap.size w w' := by
  by_cases hs : setE_R d = 0
  · have hq : (setE_R d == 0) = true := by simp [hs]
    have HY := Lib.hid (fun k hk => @preE_at d n k hs hk)
    have HN := Lib.hid (@preE_no d n)
    have HO := Lib.hid (fun k hk => @ok_at d hs k hk)
    have hd' := (setE_all hs).1
    clear hs
    go_enter Tryz.func146, Tryz.ntmps146
    go_wp2_with fail
    refine (gmay_any _ _ d _ h).mono ?_
    rintro e w1 ⟨rfl, hb1⟩
    go_wp2
    go_loopw [13] (fun i wr => ∃ k : Nat, k ≤ d.size ∧ i = .int .i64 k ∧ (∀ j, j < k → preB n d[j]! = false) ∧ Below w.heap.size w wr) (fun i _ => d.size - (intOf i).toNat)
    case atStart => exact ⟨0, Nat.zero_le _, rfl, fun j hj => absurd hj (by omega), hb1⟩
    case round =>
      obtain ⟨k, hk, rfl, hj, hb⟩ := hrel
      have HJ := Lib.hid hj; clear hj
      by_cases hlt : k < d.size
      · obtain ⟨b, off, rfl, _, f⟩ := (h.below hb).at_ hlt
        have f0 := f 0 (by omega)
        have f1 := f 1 (by omega)
        have ho := HO.out k hlt
        have HB : Hid (preB n d[k]! = decide (d[k]!.1 - 1 ≤ n ∧ n < d[k]!.2)) := rfl
        have HYk := Lib.hid (HY.out k hlt HJ.out)
        have HNk : Hid (preB n d[k]! = false → ∀ j, j < k + 1 → preB n d[j]! = false) := fun hf j hj => by
          rcases Nat.lt_or_ge j k with h' | h'
          · exact HJ.out j h'
          · obtain rfl : j = k := by omega
            exact hf
        generalize d[k]! = x at f0 f1 HB HYk HNk ho
        simp only [Nat.add_zero, encR, List.getElem!_cons_zero, List.getElem!_cons_succ] at f0 f1
        clear f
        have kz : (k : Int) < (d.size : Int) := by omega
        go_wp2
        all_goals first
          | (go_ret; exact ⟨ret_int (HYk.out (by rw [HB.out]; simp; omega)).symm, belAlloc hb _⟩)
          | exact ⟨⟨k + 1, by omega, by go_num, HNk.out (by rw [HB.out]; simp; omega), belAlloc hb _⟩, by simp [intOf]; omega⟩
      · go_wp2
        go_ret
        exact ⟨ret_int (HN.out fun j hj => HJ.out j (by omega)).symm, hb⟩
  · have hq : (setE_R d == 0) = false := by simpa using hs
    have HH := Lib.hid (preE_bad (b := n) hs)
    clear hs
    go_enter Tryz.func146, Tryz.ntmps146
    go_wp2_with fail
    refine (gmay_any _ _ d _ h).mono ?_
    rintro e w1 ⟨rfl, hb1⟩
    go_wp2
    go_ret
    exact ⟨ret_int HH.out.symm, hb1⟩
end Go.Proofs.YtnmojicfmcbgmaaGreat
namespace Go.Proofs.YtnmojicfmcbgmaaGreat
open Go.RowKit Go.Sort

def encI_R (x : Int) : Value := .int .i64 x
/-- The slice at A, of d.size ints, reads as d, and lies below block B. -/
def RdI_R (B : Nat) (w : World) (A : Option Addr) (d : Array Int) : Prop :=
  0 < d.size → ∃ b off, A = some ⟨b, off, none⟩ ∧ b < B ∧ ∀ i, i < d.size → w.cell? ⟨b, off + i, none⟩ = some (.int .i64 d[i]!)
section
variable {w w' : World} {A : Option Addr} {d : Array Int} {B : Nat}
theorem RdI_R.below (h : RdI_R B w A d) (hb : Below B w w') : RdI_R B w' A d := fun h0 => by
  obtain ⟨b, off, e, hlt, hc⟩ := h h0
  exact ⟨b, off, e, hlt, fun t ht => (hb.cell (p := ⟨b, off + t, none⟩) hlt).trans (hc t ht)⟩
theorem RdI_R.mono {B' : Nat} (h : RdI_R B w A d) (hB : B ≤ B') : RdI_R B' w A d := fun h0 => by
  obtain ⟨b, off, e, hlt, hc⟩ := h h0
  exact ⟨b, off, e, by omega, hc⟩
theorem RdI_R.alloc (h : RdI_R B w A d) (hB : B ≤ w.heap.size) (o : Obj) : RdI_R B (w.alloc o) A d := h.below ((Below.refl _ _).alloc hB o)
theorem RdI_R.at_ (h : RdI_R B w A d) {i : Nat} (hi : i < d.size) : ∃ b off, A = some ⟨b, off, none⟩ ∧ b < B ∧ w.cell? ⟨b, off + i, none⟩ = some (.int .i64 d[i]!) := by
  obtain ⟨b, off, e, hlt, hc⟩ := h (by omega)
  exact ⟨b, off, e, hlt, hc i hi⟩
theorem RdI_R.none_ : RdI_R B w A #[] := fun h => absurd h (by decide)
theorem RdI_R.new (w : World) (d : Array Int) (e : TypeId) (cs : Array Value) (h : cs = d.map encI_R) : RdI_R (w.heap.size + 1) (w.alloc (.cells cs e)) (some ⟨w.heap.size, 0, none⟩) d := fun _ =>
  ⟨_, _, rfl, Nat.lt_succ_self _, fun i hi => by
    rw [cell_new, Nat.zero_add, h, Array.getElem?_map, Array.getElem?_eq_getElem hi, getElem!_pos _ i hi]; rfl⟩
end

def mostN (n : Int) : Int := if n < 3 ∨ 9 < n then 0 else n / 2 + 1
def manyB (n : Int) : Bool := decide (3 ≤ n ∧ n ≤ 9)
theorem many_any (n : Int) (w : World) :
    Calls Tryz.prog 69 #[.int .i64 n] w fun e w' => e = .returned (.bool (manyB n)) ∧ w = w' := by
  go_enter Tryz.func69, Tryz.ntmps69
  go_wp2
  all_goals
    go_ret
    exact ⟨ret_bool (by unfold manyB; simp <;> omega), rfl⟩
theorem manyB_yes {n : Int} (h : 3 ≤ n) (h' : n ≤ 9) : manyB n = true := by unfold manyB; simp; omega
theorem manyB_no {n : Int} (h : n < 3 ∨ 9 < n) : manyB n = false := by unfold manyB; simp; omega
theorem Most_any (n : Int) (w : World) :
    Calls Tryz.prog 70 #[.int .i64 n] w fun e w' => e = .returned (.int .i64 (mostN n)) ∧ w = w' := by
  by_cases h : n < 3 ∨ 9 < n
  · have hm := manyB_no h
    have HM : Hid (mostN n = 0) := by show _ = _; unfold mostN; rw [if_pos h]
    clear h
    go_enter Tryz.func70, Tryz.ntmps70
    go_wp2_with (go_at_call 69; refine (many_any _ _).mono ?_; rintro e w' ⟨rfl, rfl⟩)
    go_ret
    exact ⟨ret_int HM.out.symm, rfl⟩
  · have h1 : 3 ≤ n := by omega
    have h2 : n ≤ 9 := by omega
    have hm := manyB_yes h1 h2
    have HM : Hid (mostN n = n / 2 + 1) := by show _ = _; unfold mostN; rw [if_neg h]
    clear h
    go_enter Tryz.func70, Tryz.ntmps70
    go_wp2_with (go_at_call 69; refine (many_any _ _).mono ?_; rintro e w' ⟨rfl, rfl⟩)
    go_ret
    exact ⟨ret_int HM.out.symm, rfl⟩
theorem rMost_any (n : Int) (w : World) :
    Calls Tryz.prog 88 #[.int .i64 n] w fun e w' => e = .returned (.int .i64 (mostN n)) ∧ w = w' := by
  go_enter Tryz.func88, Tryz.ntmps88
  go_wp2
  all_goals
    go_ret
    exact ⟨ret_int (by unfold mostN; split <;> omega), rfl⟩
end Go.Proofs.YtnmojicfmcbgmaaGreat
namespace Go.Proofs.YtnmojicfmcbgmaaGreat
open Go.RowKit Go.Sort Go.Lib

theorem toList_getD (d : Array Int) (j : Nat) : d.toList.getD j 0 = d[j]! := by
  by_cases h : j < d.size <;> simp [List.getD, h]
theorem toList_get (d : Array Int) (j : Nat) : d.toList[j]! = d[j]! := by
  by_cases h : j < d.size <;> simp [h]
theorem ContI (p : Int → Bool) (g : Nat) (lb : Array Value) (A : Option Addr) (c : Nat) (d : Array Int) (B : Nat) (w : World) (h : RdI_R B w A d) (hd : d.size ≤ 100000000) (eg : ∀ args w, (callFunc g args).run Tryz.prog w = .ok (.enter g args) w) (hp : PredAt Tryz.prog g lb encI_R p w) :
    Calls Tryz.prog 136 #[.slice A d.size c, .func (.func g) #[] lb] w fun e w' => e = .returned (.bool (d.toList.any p)) ∧ ∃ q, w' = w.drewN q := by
  rcases Nat.eq_zero_or_pos d.size with h0 | h0
  · have e0 : d = #[] := Array.eq_empty_of_size_eq_zero h0
    subst e0
    exact (Tryz.slices_ContainsFunc_empty (α := Int) A c _ w).mono fun e w' ⟨he, hw⟩ => ⟨by rw [he]; rfl, 0, hw⟩
  · obtain ⟨b, off, rfl, _, hc⟩ := h h0
    have := Tryz.slices_ContainsFunc encI_R p g lb eg b off d.size c d.toList w hp (by simp) (by omega) (fun j hj => by rw [hc j (by simpa using hj), toList_get]; rfl)
    rwa [show d.toList.take d.size = d.toList from List.take_of_length_le (by simp)] at this
theorem holds_of_ownsI {w : World} {base : Nat} {e : TypeId} {v : Value} {d : Array Int} (h : w.ownsRow base e 1 v d.size (d.toList.map (Value.int .i64))) (hn : v ≠ .slice none 0 0) :
    ∃ g cap, v = .slice (some ⟨g, 0, none⟩) d.size cap ∧ base ≤ g ∧ g < w.heap.size ∧ Holds encI_R w g 0 d := by
  obtain ⟨_, ⟨h1, _⟩ | ⟨g, cap, cur, hv, hb, hh, hnc, hmx, hcur, htk⟩⟩ := h
  · exact absurd h1 hn
  · have hlt : g < w.heap.size := by
      rcases Nat.lt_or_ge g w.heap.size with h | h
      · exact h
      · rw [Array.getElem?_eq_none h] at hh; cases hh
    refine ⟨g, cap, hv, hb, hlt, fun t ht => ?_⟩
    have e1 : cur.toList[t]? = (d.toList.map (Value.int .i64))[t]? := by rw [← htk, List.getElem?_take_of_lt (by omega)]
    rw [List.getElem?_map, Array.getElem?_toList, Array.getElem?_toList, Array.getElem?_eq_getElem ht] at e1
    refine ⟨?_, by simp [World.frozen?, hh]⟩
    rw [getElem!_pos d t ht]
    simp [World.cell?, hh, e1, encI_R]
/-- A clone: nothing, or a row of its own that holds the same. -/
theorem CloneI (A : Option Addr) (c : Nat) (d : Array Int) (B : Nat) (w : World) (h : RdI_R B w A d) (hd : d.size ≤ 1000000000) :
    Calls Tryz.prog 157 #[.slice A d.size c] w fun e w' => ∃ A' c', e = .returned (.slice A' d.size c') ∧ (0 < d.size → ∃ g, A' = some ⟨g, 0, none⟩ ∧ w.heap.size ≤ g ∧ g < w'.heap.size ∧ Holds encI_R w' g 0 d) ∧ Below w.heap.size w w' := by
  rcases Nat.eq_zero_or_pos d.size with h0 | h0
  · have e0 : d = #[] := Array.eq_empty_of_size_eq_zero h0
    subst e0
    cases A with
    | none => exact (Tryz.slices_Clone_int_nil 0 c w).mono fun e w' ⟨he, hw⟩ => ⟨none, 0, he, fun h => absurd h (by decide), by rw [hw]; exact Below.refl _ _⟩
    | some a =>
      refine (Tryz.slices_Clone_int_zero a c w).mono ?_
      rintro e w' ⟨v, he, hown, hn, hb⟩
      obtain ⟨_, ⟨h1, _⟩ | ⟨g, cap, cur, hv, _⟩⟩ := hown
      · exact absurd h1 hn
      · exact ⟨_, cap, by rw [he, hv]; rfl, fun h => absurd h (by decide), hb⟩
  · obtain ⟨b, off, rfl, _, hc⟩ := h h0
    refine (Tryz.slices_Clone_int b off d.size c d.toList w (by simp) (by omega) (fun j hj => by rw [hc j (by simpa using hj), toList_getD])).mono ?_
    rintro e w' ⟨v, rfl, hown, hn, hb⟩
    rw [show d.toList.take d.size = d.toList from List.take_of_length_le (by simp)] at hown
    obtain ⟨g, cap, rfl, h1, h2, h3⟩ := holds_of_ownsI hown hn
    exact ⟨_, cap, rfl, fun _ => ⟨g, rfl, h1, h2, h3⟩, hb⟩

def badMark (t : Int) : Bool := decide (t < 0 ∨ 1000000 < t)
theorem none1_any (t : Int) (w : World) :
    Calls Tryz.prog 135 #[.int .i64 t] w fun e w' => e = .returned (.bool (badMark t)) ∧ w = w' := by
  go_enter Tryz.func135, Tryz.ntmps135
  go_wp2
  all_goals
    go_ret
    refine ⟨ret_bool ?_, rfl⟩
    unfold badMark
    first | (rw [Bool.eq_iff_iff, decide_eq_true_iff, decide_eq_true_iff]; omega) | (symm; rw [decide_eq_true_iff]; omega) | (symm; rw [decide_eq_false_iff_not]; omega)
theorem none1_pred (w : World) : PredAt Tryz.prog 135 #[] encI_R badMark w := fun W x _ =>
  (none1_any x W).mono fun _ _ ⟨he, hw⟩ => ⟨he, 0, hw.symm⟩
/-- Are these marks of n replicas? -/
def marksE (d : Array Int) (n : Int) : Int := if mostN n = 0 ∨ (d.size : Int) ≠ n ∨ d.toList.any badMark = true then 2 else 0
set_option maxHeartbeats 1000000 in
theorem sCheck_any (A : Option Addr) (c : Nat) (d : Array Int) (n : Int) (B : Nat) (w : World) (h : RdI_R B w A d) (hd : d.size ≤ 100000000) :
    Calls Tryz.prog 82 #[.slice A d.size c, .int .i64 n] w fun e w' => e = .returned (.int .i64 (marksE d n)) ∧ Below w.heap.size w w' := by
  have HC := fun W hW => Lib.hid (ContI badMark 135 #[] A c d B W hW hd (enters_of Tryz.func135 (by kernel_rfl) rfl) (none1_pred W))
  have HCC := Lib.hid (HC w h)
  clear HC
  by_cases h1 : mostN n = 0
  · have HM : Hid (marksE d n = 2) := by show _ = _; unfold marksE; rw [if_pos (Or.inl h1)]
    clear HCC
    go_enter Tryz.func82, Tryz.ntmps82
    go_wp2_with (go_at_call 70; refine (Most_any _ _).mono ?_; rintro e w' ⟨rfl, rfl⟩)
    go_ret
    exact ⟨ret_int HM.out.symm, Below.refl _ _⟩
  by_cases h2 : (d.size : Int) ≠ n
  · have HM : Hid (marksE d n = 2) := by show _ = _; unfold marksE; rw [if_pos (Or.inr (Or.inl h2))]
    have b1 : (mostN n == 0) = false := by simpa using h1
    have b2 : ((d.size : Int) != n) = true := by simpa using h2
    clear h1 h2 HCC
    go_enter Tryz.func82, Tryz.ntmps82
    go_wp2_with (go_at_call 70; refine (Most_any _ _).mono ?_; rintro e w' ⟨rfl, rfl⟩)
    go_ret
    exact ⟨ret_int HM.out.symm, Below.refl _ _⟩
  have b1 : (mostN n == 0) = false := by simpa using h1
  have b2 : ((d.size : Int) != n) = false := by simpa using h2
  cases h3 : d.toList.any badMark
  · have HM : Hid (marksE d n = 0) := by show _ = _; unfold marksE; rw [if_neg (by simp [h1, h3]; simpa using h2)]
    rw [h3] at HCC
    clear h1 h2 h3
    go_enter Tryz.func82, Tryz.ntmps82
    go_wp2_with (first | (go_at_call 70; refine (Most_any _ _).mono ?_; rintro e w' ⟨rfl, rfl⟩) | (go_at_call 136; refine HCC.out.out.mono ?_; rintro e w' ⟨rfl, q, rfl⟩))
    go_ret
    exact ⟨ret_int HM.out.symm, belDrewN (Below.refl _ _) _⟩
  · have HM : Hid (marksE d n = 2) := by show _ = _; unfold marksE; rw [if_pos (Or.inr (Or.inr h3))]
    rw [h3] at HCC
    clear h1 h2 h3
    go_enter Tryz.func82, Tryz.ntmps82
    go_wp2_with (first | (go_at_call 70; refine (Most_any _ _).mono ?_; rintro e w' ⟨rfl, rfl⟩) | (go_at_call 136; refine HCC.out.out.mono ?_; rintro e w' ⟨rfl, q, rfl⟩))
    go_ret
    exact ⟨ret_int HM.out.symm, belDrewN (Below.refl _ _) _⟩
end Go.Proofs.YtnmojicfmcbgmaaGreat
namespace Go.Proofs.YtnmojicfmcbgmaaGreat
open Go.RowKit Go.Sort Go.Lib

theorem arr_ext_R {α : Type} [Inhabited α] {d1 d2 : Array α} (hs : d1.size = d2.size) (h : ∀ j, j < d1.size → d1[j]! = d2[j]!) : d1 = d2 :=
  Array.ext hs fun t h1 h2 => by have := h t h1; rwa [getElem!_pos d1 t h1, getElem!_pos d2 t h2] at this
set_option maxHeartbeats 1000000 in
theorem SameInts_any_R (A1 A2 : Option Addr) (c1 c2 : Nat) (d1 d2 : Array Int) (B1 B2 : Nat) (w : World) (h1 : RdI_R B1 w A1 d1) (h2 : RdI_R B2 w A2 d2) (hm : d2.size ≤ 100000000) :
    Calls Tryz.prog 13 #[.slice A1 d1.size c1, .slice A2 d2.size c2] w fun e w' => e = .returned (.bool (decide (d1 = d2))) ∧ ∃ n, w' = w.drewN n := by
  by_cases hs : d1.size = d2.size
  · have hb : ((d1.size : Int) != (d2.size : Int)) = false := by simp [hs]
    have HS := Lib.hid hs
    have hge : d1.size ≤ d2.size := by omega
    clear hs
    go_enter Tryz.func13, Tryz.ntmps13
    go_wp2
    go_loopw [5] (fun i wr => ∃ k n : Nat, k ≤ d1.size ∧ i = .int .i64 k ∧ wr = w.drewN n ∧ ∀ j, j < k → d1[j]! = d2[j]!) (fun i _ => d1.size - (intOf i).toNat)
    case atStart => exact ⟨0, 0, Nat.zero_le _, rfl, rfl, fun j hj => absurd hj (by omega)⟩
    case round =>
      obtain ⟨k, n, hk, rfl, rfl, hj⟩ := hrel
      have HJ := Lib.hid hj; clear hj
      by_cases hlt : k < d1.size
      · obtain ⟨b1, o1, rfl, _, f1⟩ := h1.at_ hlt
        obtain ⟨b2, o2, rfl, _, f2⟩ := h2.at_ (i := k) (by omega)
        have HX : Hid (k < d1.size) := hlt
        generalize hx : d1[k]! = x at f1
        generalize hy : d2[k]! = y at f2
        have HXX := Lib.hid hx; clear hx
        have HYY := Lib.hid hy; clear hy
        have kz : (k : Int) < (d1.size : Int) := by omega
        have kz2 : (k : Int) < (d2.size : Int) := by omega
        by_cases hxy : x = y
        · subst hxy
          go_wp2
          go_quiet (fail)
          go_wp2
          go_roundw
          case rel => exact ⟨k + 1, _, by omega, by go_num, rfl, fun j hj => by
            rcases Nat.lt_or_ge j k with h | h
            · exact HJ.out j h
            · obtain rfl : j = k := by omega
              rw [HXX.out, HYY.out]⟩
          case measure => simp [intOf]; omega
        · have hd : (x != y) = true := by simp [hxy]
          have HXY := Lib.hid hxy; clear hxy
          go_wp2
          go_quiet (fail)
          go_wp2
          go_ret
          exact ⟨ret_bool (by symm; rw [decide_eq_false_iff_not]; rintro rfl; exact HXY.out (by rw [← HXX.out, ← HYY.out])), _, World.drewN_drewN _ _ _⟩
      · go_wp2
        go_ret
        exact ⟨ret_bool (by symm; rw [decide_eq_true_iff]; exact arr_ext_R HS.out fun j hj => HJ.out j (by omega)), n, rfl⟩
  · have hb : ((d1.size : Int) != (d2.size : Int)) = true := by simp; omega
    have HS := Lib.hid hs; clear hs
    go_enter Tryz.func13, Tryz.ntmps13
    go_wp2
    go_ret
    exact ⟨ret_bool (by symm; rw [decide_eq_false_iff_not]; rintro rfl; exact HS.out rfl), 0, rfl⟩

def leastN (d : Array Int) : Int := Lib.minOf d.toList
theorem Least_any (A : Option Addr) (c : Nat) (d : Array Int) (B : Nat) (w : World) (h : RdI_R B w A d) (hd : d.size ≤ 100000000) :
    Calls Tryz.prog 119 #[.slice A d.size c] w fun e w' => e = .returned (.int .i64 (leastN d)) ∧ w = w' := by
  rcases Nat.eq_zero_or_pos d.size with h0 | h0
  · have e0 : d = #[] := Array.eq_empty_of_size_eq_zero h0
    subst e0
    go_enter Tryz.func119, Tryz.ntmps119
    go_wp2
    go_ret
    exact ⟨rfl, rfl⟩
  · obtain ⟨b, off, rfl, _, hc⟩ := h h0
    have hM := Tryz.slices_Min_int b off d.size c d.toList w h0 (by simp) (by omega) (fun j hj => by rw [hc j (by simpa using hj), toList_getD])
    rw [show d.toList.take d.size = d.toList from List.take_of_length_le (by simp)] at hM
    have HM := Lib.hid hM; clear hM hc
    have hb : ((d.size : Int) == 0) = false := beq_eq_false_iff_ne.2 (by omega)
    have HL : Hid (Lib.minOf d.toList = leastN d) := rfl
    generalize Lib.minOf d.toList = v at HM HL
    go_enter Tryz.func119, Tryz.ntmps119
    go_wp2_with (go_at_call 159; refine HM.out.mono ?_; rintro e w' ⟨rfl, rfl⟩)
    go_ret
    exact ⟨ret_int HL.out, rfl⟩
end Go.Proofs.YtnmojicfmcbgmaaGreat
namespace Go.Proofs.YtnmojicfmcbgmaaGreat
open Go.RowKit Go.Sort Go.Lib

theorem any_bad_no {d : Array Int} (h : ∀ j, j < d.size → badMark d[j]! = false) : d.toList.any badMark = false := by
  rw [List.any_eq_false]
  intro x hx
  obtain ⟨j, hj, rfl⟩ := List.mem_iff_getElem.1 hx
  have := h j (by simpa using hj)
  rw [getElem!_pos d j (by simpa using hj)] at this
  simpa using this
theorem any_bad_yes {d : Array Int} {j : Nat} (hj : j < d.size) (h : badMark d[j]! = true) : d.toList.any badMark = true := by
  rw [List.any_eq_true]
  refine ⟨d[j]!, ?_, h⟩
  rw [getElem!_pos d j hj]
  simp
set_option maxHeartbeats 1000000 in
theorem rCheck_any_S (A : Option Addr) (c : Nat) (d : Array Int) (n : Int) (B : Nat) (w : World) (h : RdI_R B w A d) (hd : d.size ≤ 100000000) :
    Calls Tryz.prog 35 #[.slice A d.size c, .int .i64 n] w fun e w' => e = .returned (.int .i64 (marksE d n)) ∧ w = w' := by
  by_cases h1 : mostN n = 0
  · have HM : Hid (marksE d n = 2) := by show _ = _; unfold marksE; rw [if_pos (Or.inl h1)]
    go_enter Tryz.func35, Tryz.ntmps35
    go_wp2_with (go_at_call 88; refine (rMost_any _ _).mono ?_; rintro e w' ⟨rfl, rfl⟩)
    go_ret
    exact ⟨ret_int HM.out.symm, rfl⟩
  by_cases h2 : (d.size : Int) ≠ n
  · have HM : Hid (marksE d n = 2) := by show _ = _; unfold marksE; rw [if_pos (Or.inr (Or.inl h2))]
    have b1 : (mostN n == 0) = false := by simpa using h1
    have b2 : ((d.size : Int) != n) = true := by simpa using h2
    clear h1 h2
    go_enter Tryz.func35, Tryz.ntmps35
    go_wp2_with (go_at_call 88; refine (rMost_any _ _).mono ?_; rintro e w' ⟨rfl, rfl⟩)
    go_ret
    exact ⟨ret_int HM.out.symm, rfl⟩
  obtain rfl : (d.size : Int) = n := by omega
  have b1 : (mostN (d.size : Int) == 0) = false := by simpa using h1
  have HM1 : Hid ((∀ j, j < d.size → badMark d[j]! = false) → marksE d d.size = 0) := fun hj => by
    unfold marksE; rw [if_neg]; simp [h1, any_bad_no hj]
  have HM2 : Hid (∀ j, j < d.size → badMark d[j]! = true → marksE d d.size = 2) := fun j hj hb => by
    unfold marksE; rw [if_pos]; exact Or.inr (Or.inr (any_bad_yes hj hb))
  clear h1 h2
  go_enter Tryz.func35, Tryz.ntmps35
  go_wp2_with (go_at_call 88; refine (rMost_any _ _).mono ?_; rintro e w' ⟨rfl, rfl⟩)
  go_loop [5] (fun i => ∃ k : Nat, k ≤ d.size ∧ i = .int .i64 k ∧ ∀ j, j < k → badMark d[j]! = false) (fun i => d.size - (intOf i).toNat)
  case atStart => exact ⟨0, Nat.zero_le _, rfl, fun j hj => absurd hj (by omega)⟩
  case round =>
    obtain ⟨k, hk, rfl, hj⟩ := hrel
    have HJ := Lib.hid hj; clear hj
    by_cases hlt : k < d.size
    · obtain ⟨b, off, rfl, _, hc⟩ := h.at_ hlt
      generalize hx : d[k]! = x at hc
      have HX := Lib.hid hx; clear hx
      by_cases hb : x < 0 ∨ 1000000 < x
      · have HB : Hid (badMark x = true) := by show _ = _; unfold badMark; simpa using hb
        by_cases hx0 : x < 0
        · go_wp2
          all_goals (go_ret; exact ⟨ret_int (HM2.out k hlt (by rw [HX.out]; exact HB.out)).symm, rfl⟩)
        · have hx1 : 1000000 < x := by omega
          have hx2 : 0 ≤ x := by omega
          clear hb hx0
          go_wp2
          all_goals (go_ret; exact ⟨ret_int (HM2.out k hlt (by rw [HX.out]; exact HB.out)).symm, rfl⟩)
      · have HB : Hid (badMark x = false) := by show _ = _; unfold badMark; simpa using hb
        have hx1 : decide (1000000 < x) = false := by simp; omega
        have hx2 : decide (x < 0) = false := by simp; omega
        clear hb
        go_wp2
        go_round
        case rel => exact ⟨k + 1, by omega, by go_num, fun j hj => by
          rcases Nat.lt_or_ge j k with h | h
          · exact HJ.out j h
          · obtain rfl : j = k := by omega
            rw [HX.out]; exact HB.out⟩
        case measure => simp [intOf]; omega
    · go_wp2
      all_goals (go_ret; exact ⟨ret_int (HM1.out fun j hj => HJ.out j (by omega)).symm, rfl⟩)

end Go.Proofs.YtnmojicfmcbgmaaGreat
