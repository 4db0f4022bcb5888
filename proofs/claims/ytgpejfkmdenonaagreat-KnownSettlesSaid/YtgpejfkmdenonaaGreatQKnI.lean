/- slices.Equal at api.Att and at api.Range. A row of structs that a call rewrites: the worlds that it passes through; clear. slices.DeleteFunc at api.Att: the elements that are kept, in their order. known.Has, known.Same; the predicates of Add and Settle. -/
import Derived.Test.YtgpejfkmdenonaaGreatQKnF
import Derived.Laws.StructEq
import Derived.Test.YtgpejfkmdenonaaGreatOwnK
import Derived.Shelf.SlSortCmp.InsertionK
import Derived.Lib.SlKept
import Derived.Lib.SliceRun
import Derived.Shelf.SlicesQ.IndexFunc
import Derived.Shelf.SlicesE.DeleteFunc
import Derived.Test.YtgpejfkmdenonaaGreatQKnA
namespace Go.Proofs.YtgpejfkmdenonaaGreat
open Go.RowKit Go.Sort Go.Lib
set_option maxRecDepth 100000
theorem arr_ext_K {α : Type} [Inhabited α] {d1 d2 : Array α} (hs : d1.size = d2.size) (h : ∀ j, j < d1.size → d1[j]! = d2[j]!) : d1 = d2 :=
  Array.ext hs fun t h1 h2 => by have := h t h1; rwa [getElem!_pos d1 t h1, getElem!_pos d2 t h2] at this
theorem RdK.next_K {α : Type} [Inhabited α] {enc : α → List Value} {k : Nat} {w w' : World} {A : Option Addr} {d : Array α} (h : RdK enc k w.heap.size w A d) (hb : Below w.heap.size w w') : RdK enc k w'.heap.size w' A d := (h.below hb).mono hb.size
theorem attGuard_K : Tryz.prog.eqGuardType Tryz.prog.depth 50 = false := by kernel_rfl
theorem neA_K (x y : Int × Int) (w : World) : (binOp .neq 50 (.agg #[.int .i64 x.1, .int .i64 x.2]) (.agg #[.int .i64 y.1, .int .i64 y.2])).run Tryz.prog w = .ok (.bool (!decide (x = y))) w := by
  have hS : Tryz.prog.underlying 50 = some (.struct (Tryz.prog.fieldsOf 50)) := by kernel_rfl
  have hp : Tryz.prog.stoodInHeld 50 = false := by kernel_rfl
  have u3 := Tryz.underlying3
  rw [run_neq_struct, show (10000 : Nat) = 9999 + 1 from rfl, run_equalIn_agg w 9999 50 _ _ hS hp]
  simp only [Program.fieldsOf, Tryz.underlying50]
  go_simp
  obtain ⟨x1, x2⟩ := x
  obtain ⟨y1, y2⟩ := y
  by_cases h1 : x1 = y1 <;> by_cases h2 : x2 = y2 <;> simp [h1, h2]
set_option maxHeartbeats 1000000 in
theorem EqAttsK0 (A1 A2 : Option Addr) (c1 c2 : Nat) (d1 d2 : Array (Int × Int)) (B1 B2 : Nat) (w : World) (h1 : RdK encA_I 2 B1 w A1 d1) (h2 : RdK encA_I 2 B2 w A2 d2) (_hn : d1.size ≤ 100000000) (hm : d2.size ≤ 100000000) :
    Calls Tryz.prog 50 #[.slice A1 d1.size c1, .slice A2 d2.size c2] w fun e w' => e = .returned (.bool (decide (d1 = d2))) ∧ ∃ n, w' = w.drewN n := by
  by_cases hs : d1.size = d2.size
  · have hb : ((d1.size : Int) != (d2.size : Int)) = false := by simp [hs]
    have HS := Lib.hid hs
    have hge : d1.size ≤ d2.size := by omega
    clear hs
    go_enter Tryz.func50, Tryz.ntmps50
    go_wp2
    go_loopw [13] (fun i wr => ∃ k n : Nat, k ≤ d1.size ∧ i = .int .i64 k ∧ wr = w.drewN n ∧ ∀ j, j < k → d1[j]! = d2[j]!) (fun i _ => d1.size - (intOf i).toNat)
    case atStart => exact ⟨0, 0, Nat.zero_le _, rfl, rfl, fun j hj => absurd hj (by omega)⟩
    case round =>
      obtain ⟨k, n, hk, rfl, rfl, hj⟩ := hrel
      have HJ := Lib.hid hj; clear hj
      by_cases hlt : k < d1.size
      · obtain ⟨b1, o1, rfl, _, f1⟩ := h1.at_ hlt
        obtain ⟨b2, o2, rfl, _, f2⟩ := h2.at_ (i := k) (by omega)
        have e10 := f1 0 (by omega)
        have e11 := f1 1 (by omega)
        have e20 := f2 0 (by omega)
        have e21 := f2 1 (by omega)
        have hnx := neA_K d1[k]! d2[k]!
        have hgd := attGuard_K
        generalize hx : d1[k]! = x at e10 e11 hnx
        generalize hy : d2[k]! = y at e20 e21 hnx
        have HXX := Lib.hid hx; clear hx
        have HYY := Lib.hid hy; clear hy
        simp only [Nat.add_zero, encA_I, List.getElem!_cons_zero, List.getElem!_cons_succ] at e10 e11 e20 e21
        clear f1 f2
        have kz : (k : Int) < (d1.size : Int) := by omega
        have kz2 : (k : Int) < (d2.size : Int) := by omega
        by_cases hxy : x = y
        · skip
          have hd : decide (x = y) = true := by simp [hxy]
          have HXY := Lib.hid hxy; clear hxy
          rw [hd] at hnx
          clear hd
          go_wp2
          go_quiet (fail)
          go_wp2
          go_roundw
          case rel => exact ⟨k + 1, _, by omega, by go_num, rfl, fun j hj => by
            rcases Nat.lt_or_ge j k with h | h
            · exact HJ.out j h
            · obtain rfl : j = k := by omega
              rw [HXX.out, HYY.out]; exact HXY.out⟩
          case measure => simp [intOf]; omega
        · skip
          have hd : decide (x = y) = false := by simp [hxy]
          have HXY := Lib.hid hxy; clear hxy
          rw [hd] at hnx
          clear hd
          go_wp2
          go_quiet (fail)
          go_wp2
          go_ret
          exact ⟨ret_bool (by symm; rw [decide_eq_false_iff_not]; rintro rfl; exact HXY.out (by rw [← HXX.out, ← HYY.out])), _, World.drewN_drewN _ _ _⟩
      · go_wp2
        go_ret
        exact ⟨ret_bool (by symm; rw [decide_eq_true_iff]; exact arr_ext_K HS.out fun j hj => HJ.out j (by omega)), n, rfl⟩
  · have hb : ((d1.size : Int) != (d2.size : Int)) = true := by simp; omega
    have HS := Lib.hid hs
    clear hs
    go_enter Tryz.func50, Tryz.ntmps50
    go_wp2
    go_ret
    exact ⟨ret_bool (by symm; rw [decide_eq_false_iff_not]; rintro rfl; exact HS.out rfl), 0, rfl⟩
theorem EqAttsK_any (A1 A2 : Option Addr) (c1 c2 : Nat) (d1 d2 : Array (Int × Int)) (B1 B2 : Nat) (w : World) (h1 : RdK encA_I 2 B1 w A1 d1) (h2 : RdK encA_I 2 B2 w A2 d2) (hn : d1.size ≤ 100000000) (hm : d2.size ≤ 100000000) :
    Calls Tryz.prog 50 #[.slice A1 d1.size c1, .slice A2 d2.size c2] w fun e w' => e = .returned (.bool (decide (d1 = d2))) ∧ Below w.heap.size w w' :=
  (EqAttsK0 A1 A2 c1 c2 d1 d2 B1 B2 w h1 h2 hn hm).mono fun _ _ ⟨he, n, hw⟩ => ⟨he, by rw [hw]; exact belDrewN (Below.refl _ _) n⟩
theorem rngGuard_K : Tryz.prog.eqGuardType Tryz.prog.depth 47 = false := by kernel_rfl
theorem neR_K (x y : Int × Int) (w : World) : (binOp .neq 47 (.agg #[.int .i64 x.1, .int .i64 x.2]) (.agg #[.int .i64 y.1, .int .i64 y.2])).run Tryz.prog w = .ok (.bool (!decide (x = y))) w := by
  have hS : Tryz.prog.underlying 47 = some (.struct (Tryz.prog.fieldsOf 47)) := by kernel_rfl
  have hp : Tryz.prog.stoodInHeld 47 = false := by kernel_rfl
  have u3 := Tryz.underlying3
  rw [run_neq_struct, show (10000 : Nat) = 9999 + 1 from rfl, run_equalIn_agg w 9999 47 _ _ hS hp]
  simp only [Program.fieldsOf, Tryz.underlying47]
  go_simp
  obtain ⟨x1, x2⟩ := x
  obtain ⟨y1, y2⟩ := y
  by_cases h1 : x1 = y1 <;> by_cases h2 : x2 = y2 <;> simp [h1, h2]
set_option maxHeartbeats 1000000 in
theorem EqRngsK0 (A1 A2 : Option Addr) (c1 c2 : Nat) (d1 d2 : Array (Int × Int)) (B1 B2 : Nat) (w : World) (h1 : RdK encR 2 B1 w A1 d1) (h2 : RdK encR 2 B2 w A2 d2) (_hn : d1.size ≤ 100000000) (hm : d2.size ≤ 100000000) :
    Calls Tryz.prog 49 #[.slice A1 d1.size c1, .slice A2 d2.size c2] w fun e w' => e = .returned (.bool (decide (d1 = d2))) ∧ ∃ n, w' = w.drewN n := by
  by_cases hs : d1.size = d2.size
  · have hb : ((d1.size : Int) != (d2.size : Int)) = false := by simp [hs]
    have HS := Lib.hid hs
    have hge : d1.size ≤ d2.size := by omega
    clear hs
    go_enter Tryz.func49, Tryz.ntmps49
    go_wp2
    go_loopw [13] (fun i wr => ∃ k n : Nat, k ≤ d1.size ∧ i = .int .i64 k ∧ wr = w.drewN n ∧ ∀ j, j < k → d1[j]! = d2[j]!) (fun i _ => d1.size - (intOf i).toNat)
    case atStart => exact ⟨0, 0, Nat.zero_le _, rfl, rfl, fun j hj => absurd hj (by omega)⟩
    case round =>
      obtain ⟨k, n, hk, rfl, rfl, hj⟩ := hrel
      have HJ := Lib.hid hj; clear hj
      by_cases hlt : k < d1.size
      · obtain ⟨b1, o1, rfl, _, f1⟩ := h1.at_ hlt
        obtain ⟨b2, o2, rfl, _, f2⟩ := h2.at_ (i := k) (by omega)
        have e10 := f1 0 (by omega)
        have e11 := f1 1 (by omega)
        have e20 := f2 0 (by omega)
        have e21 := f2 1 (by omega)
        have hnx := neR_K d1[k]! d2[k]!
        have hgd := rngGuard_K
        generalize hx : d1[k]! = x at e10 e11 hnx
        generalize hy : d2[k]! = y at e20 e21 hnx
        have HXX := Lib.hid hx; clear hx
        have HYY := Lib.hid hy; clear hy
        simp only [Nat.add_zero, encR, List.getElem!_cons_zero, List.getElem!_cons_succ] at e10 e11 e20 e21
        clear f1 f2
        have kz : (k : Int) < (d1.size : Int) := by omega
        have kz2 : (k : Int) < (d2.size : Int) := by omega
        by_cases hxy : x = y
        · skip
          have hd : decide (x = y) = true := by simp [hxy]
          have HXY := Lib.hid hxy; clear hxy
          rw [hd] at hnx
          clear hd
          go_wp2
          go_quiet (fail)
          go_wp2
          go_roundw
          case rel => exact ⟨k + 1, _, by omega, by go_num, rfl, fun j hj => by
            rcases Nat.lt_or_ge j k with h | h
            · exact HJ.out j h
            · obtain rfl : j = k := by omega
              rw [HXX.out, HYY.out]; exact HXY.out⟩
          case measure => simp [intOf]; omega
        · skip
          have hd : decide (x = y) = false := by simp [hxy]
          have HXY := Lib.hid hxy; clear hxy
          rw [hd] at hnx
          clear hd
          go_wp2
          go_quiet (fail)
          go_wp2
          go_ret
          exact ⟨ret_bool (by symm; rw [decide_eq_false_iff_not]; rintro rfl; exact HXY.out (by rw [← HXX.out, ← HYY.out])), _, World.drewN_drewN _ _ _⟩
      · go_wp2
        go_ret
        exact ⟨ret_bool (by symm; rw [decide_eq_true_iff]; exact arr_ext_K HS.out fun j hj => HJ.out j (by omega)), n, rfl⟩
  · have hb : ((d1.size : Int) != (d2.size : Int)) = true := by simp; omega
    have HS := Lib.hid hs
    clear hs
    go_enter Tryz.func49, Tryz.ntmps49
    go_wp2
    go_ret
    exact ⟨ret_bool (by symm; rw [decide_eq_false_iff_not]; rintro rfl; exact HS.out rfl), 0, rfl⟩
theorem EqRngsK_any (A1 A2 : Option Addr) (c1 c2 : Nat) (d1 d2 : Array (Int × Int)) (B1 B2 : Nat) (w : World) (h1 : RdK encR 2 B1 w A1 d1) (h2 : RdK encR 2 B2 w A2 d2) (hn : d1.size ≤ 100000000) (hm : d2.size ≤ 100000000) :
    Calls Tryz.prog 49 #[.slice A1 d1.size c1, .slice A2 d2.size c2] w fun e w' => e = .returned (.bool (decide (d1 = d2))) ∧ Below w.heap.size w w' :=
  (EqRngsK0 A1 A2 c1 c2 d1 d2 B1 B2 w h1 h2 hn hm).mono fun _ _ ⟨he, n, hw⟩ => ⟨he, by rw [hw]; exact belDrewN (Below.refl _ _) n⟩
end Go.Proofs.YtgpejfkmdenonaaGreat
namespace Go.Proofs.YtgpejfkmdenonaaGreat
open Go.RowKit Go.Sort Go.Lib
section
variable {α : Type} [Inhabited α] {enc : α → List Value} {k : Nat} {w w1 w2 : World} {blk off : Nat} {d d2 : Array α}
/-- w' is w but for the row at blk, which holds d, and for what was made. -/
structure SrtK (enc : α → List Value) (k : Nat) (w : World) (blk off : Nat) (d : Array α) (w' : World) : Prop where
  holds : HoldsK enc k w' blk off d
  lt : blk < w.heap.size
  grown : w.grownBy w' (some blk)
theorem grown_trans_K {a b c : World} {row : Option Nat} (h : a.grownBy b row) (k : b.grownBy c row) : a.grownBy c row :=
  ⟨k.os.trans h.os, k.tape.trans h.tape, k.output.trans h.output, Nat.le_trans h.size k.size, fun i hi hne => (k.block i (Nat.lt_of_lt_of_le hi h.size) hne).trans (h.block i hi hne)⟩
theorem grown_of_below {a b : World} (h : RowKit.Below a.heap.size a b) (row : Option Nat) : a.grownBy b row := ⟨h.os, h.tape, h.output, h.size, fun i hi _ => h.block i hi⟩
theorem grown_setCell (a : World) (g o : Nat) (v : Value) : a.grownBy (a.setCell ⟨g, o, none⟩ v) (some g) :=
  ⟨rfl, rfl, rfl, by simp [World.setCell], fun i _ hne => Below.heap_setCell a ⟨g, o, none⟩ v i (fun e => hne (by rw [e]))⟩
theorem grown_setCells (g : Nat) : ∀ (vs : List Value) (o : Nat) (a : World), a.grownBy (a.setCells g o vs) (some g)
  | [], _, a => World.grownBy.refl a _
  | v :: vs, o, a => grown_trans_K (grown_setCell a g o v) (grown_setCells g vs (o + 1) (a.setCell ⟨g, o, none⟩ v))
theorem SrtK.refl (h : HoldsK enc k w blk off d) (hl : blk < w.heap.size) : SrtK enc k w blk off d w := ⟨h, hl, World.grownBy.refl w _⟩
theorem SrtK.lt1 (h : SrtK enc k w blk off d w1) : blk < w1.heap.size := Nat.lt_of_lt_of_le h.lt h.grown.size
theorem holdsK_below (h : HoldsK enc k w1 blk off d) (hl : blk < w1.heap.size) (hb : RowKit.Below w1.heap.size w1 w2) : HoldsK enc k w2 blk off d :=
  fun t ht => ⟨(hb.cell (p := ⟨blk, off + t, none⟩) hl).trans (h t ht).1, (hb.frozen (p := ⟨blk, off + t, none⟩) hl).trans (h t ht).2⟩
theorem SrtK.below (h : SrtK enc k w blk off d w1) (hb : RowKit.Below w1.heap.size w1 w2) : SrtK enc k w blk off d w2 :=
  ⟨holdsK_below h.holds h.lt1 hb, h.lt, grown_trans_K h.grown (grown_of_below hb _)⟩
theorem flatK_put (hk : ∀ x, (enc x).length = k) (d : Array α) (i : Nat) (hi : i < d.size) (x : α) : flatK enc k (d.setIfInBounds i x) = setMany (flatK enc k d) (i * k) (enc x) := by
  have hik : i * k + k ≤ d.size * k := by
    have := Nat.mul_le_mul_right k (show i + 1 ≤ d.size from hi); rwa [Nat.add_mul, Nat.one_mul] at this
  rcases Nat.eq_zero_or_pos k with k0 | k0
  · subst k0
    have : enc x = [] := List.eq_nil_of_length_eq_zero (hk x)
    rw [this]
    apply Array.ext
    · simp [setMany, size_flatK]
    · intro t h1 h2
      rw [size_flatK] at h1
      omega
  apply Array.ext
  · simp [size_flatK]
  · intro t h1 h2
    have ht : t < d.size * k := by simpa [size_flatK] using h1
    rw [← getElem!_pos _ t h1, ← getElem!_pos _ t h2, get_flatK _ _ _ _ (by simpa using ht), get_setMany _ _ _ t (by rw [size_flatK]; exact ht), get_flatK _ _ _ _ ht, hk]
    by_cases a : t / k = i
    · rw [if_pos ((blk_iff k i t k0).2 a), a, getElem!_set_same d i x hi]
      have : t - i * k = t % k := by subst a; rw [Nat.mod_eq_sub_div_mul]
      rw [this]
    · rw [if_neg (fun h => a ((blk_iff k i t k0).1 h)), getElem!_set_other d i _ x a]
theorem SrtK.put (hk : ∀ x, (enc x).length = k) (h : SrtK enc k w blk off d w1) {i : Nat} (hi : i < d.size) (x : α) : SrtK enc k w blk off (d.setIfInBounds i x) (w1.setCells blk (off + i * k) (enc x)) := by
  have hik : i * k + k ≤ d.size * k := by
    have := Nat.mul_le_mul_right k (show i + 1 ≤ d.size from hi); rwa [Nat.add_mul, Nat.one_mul] at this
  refine ⟨?_, h.lt, grown_trans_K h.grown (grown_setCells _ _ _ _)⟩
  unfold HoldsK
  rw [flatK_put hk d i hi x]
  exact holds_setCells_c h.holds (i * k) (enc x) (by rw [hk, size_flatK]; exact hik)
/-- clear(s), s of n > 0 elements whose zero value is an aggregate of cells. -/
theorem run_clear_sliceK {P : Program} {n : Nat} (w : World) (t e ty : TypeId) (z : Value) (ht : P.underlying t = some (.slice e)) (hv : ∀ w, (zeroValue e).run P w = .ok z w) (h1 : ∀ v ∈ (Builtin.zeroCells z.cells n).toList, v.oneCell' = true) (b o c : Nat) (hn : 0 < n)
    (hc : ∀ j, j < (Builtin.zeroCells z.cells n).toList.length → (w.cell? ⟨b, o + j, none⟩).isSome = true) (hf : ∀ j, j < (Builtin.zeroCells z.cells n).toList.length → w.frozen? ⟨b, o + j, none⟩ = false) :
    (Builtin.clear_ #[t] ty #[.slice (some ⟨b, o, none⟩) n c]).run P w = .ok (.tuple #[]) (w.setCells b o (Builtin.zeroCells z.cells n).toList) := by
  have hst := run_storeCells_cells (P := P) b o (Builtin.zeroCells z.cells n).toList 0 w (by simpa using hc) (by simpa using hf) h1
  simp only [Nat.add_zero] at hst
  obtain ⟨m, rfl⟩ : ∃ m, n = m + 1 := ⟨n - 1, by omega⟩
  simp [Builtin.clear_, run_underlying ht, hv, hst]
theorem zeroCells_len (z : Array Value) (n : Nat) : (Builtin.zeroCells z n).toList.length = n * z.size := by simp [Builtin.zeroCells]
theorem zeroCells_one (z : Array Value) (n : Nat) (h : ∀ v ∈ z, v.oneCell' = true) : ∀ v ∈ (Builtin.zeroCells z n).toList, v.oneCell' = true := by
  intro v hv
  unfold Builtin.zeroCells at hv
  rw [Array.mem_toList_iff, Array.mem_map] at hv
  obtain ⟨i, hi, rfl⟩ := hv
  have hi' : i < n * z.size := by simpa using hi
  have hz : 0 < z.size := by rcases Nat.eq_zero_or_pos z.size with h' | h'; (rw [h', Nat.mul_zero] at hi'; omega); exact h'
  have hm : i % z.size < z.size := Nat.mod_lt _ hz
  rw [getElem!_pos z _ hm]
  exact h _ (Array.getElem_mem hm)
/-- Behind the clearing the row's head reads as what is kept. -/
theorem kept_rd {kp : Nat → Bool} {dk : Array α} {i : Nat} (h : SrtK enc k w blk off dk w1) (hI : KeptInv kp d d.size i dk) (vs : List Value) : RdK enc k w1.heap.size (w1.setCells blk (off + i * k) vs) (some ⟨blk, off, none⟩) (keptUpTo kp d d.size).toArray := by
  intro h0
  refine ⟨blk, off, rfl, h.lt1, fun t ht => ?_⟩
  have hi : i < dk.size := by have := hI.lt; have := hI.size; omega
  have hlen : (keptUpTo kp d d.size).toArray.size = i := by simpa using hI.len
  rw [hlen] at ht
  have hik : i * k ≤ dk.size * k := Nat.mul_le_mul_right k (Nat.le_of_lt hi)
  rw [World.cell?_setCells_out blk vs (off + i * k) w1 ⟨blk, off + t, none⟩ (fun _ _ => Or.inl (by show off + t < off + i * k; omega))]
  rw [(h.holds t (by rw [size_flatK]; omega)).1]
  show some (flatK enc k dk)[t]! = _
  rw [get_flatK _ _ _ _ (by omega), get_flatK _ _ _ _ (by rw [hlen]; exact ht)]
  have hk0 : 0 < k := by rcases Nat.eq_zero_or_pos k with h' | h'; (rw [h', Nat.mul_zero] at ht; omega); exact h'
  have hti : t / k < i := (Nat.div_lt_iff_lt_mul hk0).2 ht
  have e := hI.low (t / k) hti
  have : (keptUpTo kp d d.size).toArray[t / k]! = dk[t / k]! := by
    rw [getElem!_def, List.getElem?_toArray, e]
  rw [this]
end
end Go.Proofs.YtgpejfkmdenonaaGreat
namespace Go.Proofs.YtgpejfkmdenonaaGreat
open Go.RowKit Go.Sort Go.Lib
set_option maxRecDepth 100000
set_option maxHeartbeats 8000000 in
theorem attDel (p : Int × Int → Bool) (g : Nat) (lb : Array Value) (eg : ∀ args w, (callFunc g args).run Tryz.prog w = .ok (.enter g args) w) (blk off cap : Nat) (d : Array (Int × Int)) (w : World)
    (hp : ∀ W x, w.grownBy W (some blk) → Calls Tryz.prog g (#[.agg (encA_I x).toArray] ++ lb) W fun e w' => e = .returned (.bool (p x)) ∧ Below W.heap.size W w')
    (hH : HoldsK encA_I 2 w blk off d) (hlt : blk < w.heap.size) (hsz : d.size ≤ 1000000) (hcap : d.size ≤ cap) :
    Calls Tryz.prog 23 #[.slice (some ⟨blk, off, none⟩) d.size cap, .func (.func g) #[] lb] w fun e w' => e = .returned (.slice (some ⟨blk, off, none⟩) (d.toList.filter fun x => !p x).toArray.size cap) ∧ w.grownBy w' (some blk) ∧ RdK encA_I 2 w'.heap.size w' (some ⟨blk, off, none⟩) (d.toList.filter fun x => !p x).toArray := by
  have tl : ∀ j, j < d.size → d.toList[j]! = d[j]! := fun j hj => by rw [getElem!_pos d j hj, getElem!_pos d.toList j (by simpa using hj)]; simp
  have hIF := AnyQ.slices_IndexFunc (P := Tryz.prog) { Tryz.laysContA with } 2 Tryz.isAgg50 Tryz.sizeOf50 encA_I encA_len_I p g lb eg blk off d.size cap d.toList w
    (fun W x hb => (hp W x (grown_of_below hb _)).mono fun _ _ ⟨he, hb'⟩ => ⟨he, hb.trans (hb'.mono hb.size)⟩) (by simp) (by omega) hlt (fun j hj i v hv => by
      have hj' : j < d.size := by simpa using hj
      have hi : i < 2 := by
        rcases Nat.lt_or_ge i 2 with h' | h'
        · exact h'
        · rw [List.getElem?_eq_none (by rw [encA_len_I]; exact h')] at hv; cases hv
      rw [tl j hj'] at hv
      rw [(hH.cell hj' hi).1, List.getElem!_eq_getElem?_getD, hv]; rfl)
  rw [show d.toList.take d.size = d.toList from List.take_of_length_le (by simp)] at hIF
  obtain ⟨kp, HK⟩ : ∃ kp : Nat → Bool, Hid (kp = fun j => !p d[j]!) := ⟨_, rfl⟩
  have hfil : (d.toList.filter fun x => !p x) = keptUpTo kp d d.size := by rw [HK.out]; exact (keptUpTo_filter (fun x => !p x) d).symm
  rw [hfil]
  have HH := Lib.hid hH
  have HP := Lib.hid hp
  rcases idxByFrom_spec (fun _ y => p y) default d.toList 0 with ⟨e1, hall⟩ | ⟨k0, hk0, e1, ht, hall⟩
  · have e2 : Lib.idxBy (fun _ y => p y) d.toList default = -1 := e1
    rw [e2] at hIF
    have hkeep : ∀ j, j < d.size → kp j = true := fun j hj => by rw [HK.out]; show (!p d[j]!) = true; rw [← tl j hj, hall j (by simpa using hj)]; rfl
    have e3 : keptUpTo kp d d.size = d.toList := by rw [keptUpTo_all kp d _ hkeep, range_map_get]
    have HIF := Lib.hid hIF
    clear hH hp hIF hall tl hkeep hfil e1 e2
    have HE3 := Lib.hid e3
    clear e3
    go_enter Tryz.func23, Tryz.ntmps23
    go_wp2_with fail
    refine HIF.out.mono ?_
    rintro e w1 ⟨rfl, hb1⟩
    go_wp2
    go_ret
    rw [HE3.out]
    refine ⟨by simp, grown_of_below hb1 _, ?_⟩
    have hhk := holdsK_below HH.out hlt hb1
    have := RdK.of_holds hhk (B := w1.heap.size) (Nat.lt_of_lt_of_le hlt hb1.size)
    simpa using this
  · have hk0' : k0 < d.size := by simpa using hk0
    have e2 : Lib.idxBy (fun _ y => p y) d.toList default = (k0 : Int) := by unfold Lib.idxBy; rw [e1]; simp
    rw [e2] at hIF
    have hkeep : ∀ j, j < k0 → kp j = true := fun j hj => by rw [HK.out]; show (!p d[j]!) = true; rw [← tl j (by omega), hall j hj]; rfl
    have hdrop : kp k0 = false := by rw [HK.out]; show (!p d[k0]!) = false; rw [← tl k0 hk0']; rw [show p d.toList[k0]! = true from ht]; rfl
    have hne1 : ((k0 : Int) == -1) = false := beq_eq_false_iff_ne.2 (by omega)
    have HIF := Lib.hid hIF
    have HST := Lib.hid (KeptInv.start (d := d) hkeep hdrop)
    clear hH hp hIF hall ht e1 e2 tl hkeep hdrop hfil
    go_enter Tryz.func23, Tryz.ntmps23
    go_wp2_with fail
    refine HIF.out.mono ?_
    rintro e w1 ⟨rfl, hb1⟩
    have HB1 := Lib.hid hb1
    clear hb1 HIF
    go_wp2
    go_loopg [5, 6] d.size (fun gg s5 s6 wr => ∃ (i j : Nat) (dk : Array (Int × Int)), s5 = .int .i64 i ∧ s6 = .int .i64 j ∧ j ≤ d.size ∧ d.size - j ≤ gg ∧ Aside (SrtK encA_I 2 w blk off dk wr) ∧ Aside (KeptInv kp d j i dk))
    case atStart => exact ⟨k0, k0 + 1, d, rfl, by go_num, by omega, by omega, (SrtK.refl HH.out hlt).below HB1.out, HST.out⟩
    case round =>
      obtain ⟨i, j, dk, rfl, rfl, hjd, hgg, S2, I2⟩ := hrel
      have hij := I2.out.lt
      have hds := I2.out.size
      by_cases hlt2 : j < d.size
      · have hltz : (j : Int) < (d.size : Int) := by omega
        have cj0 := (S2.out.holds.cell (i := j) (c := 0) (by omega) (by decide)).1
        have cj1 := (S2.out.holds.cell (i := j) (c := 1) (by omega) (by decide)).1
        rw [I2.out.high j (by omega)] at cj0 cj1
        obtain ⟨u, hu⟩ : ∃ u, d[j]! = u := ⟨_, rfl⟩
        rw [hu] at cj0 cj1
        have C : Aside (d[j]! = u) := hu
        clear hu
        simp only [encA_I, List.getElem!_cons_zero, List.getElem!_cons_succ, Nat.add_zero] at cj0 cj1
        have HC := Lib.hid (fun W (hg : w.grownBy W (some blk)) => HP.out W u hg)
        have ilz : (i : Int) < (d.size : Int) := by omega
        have hw2 : ∀ w2, Below (wr.alloc (.cells #[.int .i64 u.1, .int .i64 u.2] 50)).heap.size (wr.alloc (.cells #[.int .i64 u.1, .int .i64 u.2] 50)) w2 → SrtK encA_I 2 w blk off dk w2 ∧ w2.cell? ⟨wr.heap.size, 0, none⟩ = some (.int .i64 u.1) ∧ w2.cell? ⟨wr.heap.size, 1, none⟩ = some (.int .i64 u.2) := fun w2 hb => by
          have hS := S2.out.below (belStep (bel1 wr _) hb)
          refine ⟨hS, ?_, ?_⟩
          all_goals exact (hb.cell (p := ⟨wr.heap.size, _, none⟩) (by simp)).trans (cell_new wr _ _ _)
        have HW2 := Lib.hid hw2
        clear hw2
        cases hq : p u with
        | false =>
          rw [hq] at HC
          go_wp2_with fail
          refine (HC.out _ (grown_trans_K S2.out.grown (grown_of_below (bel1 wr _) _))).mono ?_
          rintro e w2 ⟨rfl, hb2⟩
          obtain ⟨hS, uu0, uu1⟩ := HW2.out w2 hb2
          have HS := Lib.hid hS
          have ci0 := hS.holds.cell (i := i) (c := 0) (by omega) (by decide)
          have cc0 := ci0.1
          have cf0 := ci0.2
          have ci1 := hS.holds.cell (i := i) (c := 1) (by omega) (by decide)
          have cc1 := ci1.1
          have cf1 := ci1.2
          simp only [Nat.add_zero] at cc0 cf0
          clear hS hb2 HC HW2 ci0 ci1
          generalize (encA_I dk[i]!)[0]! = old0 at cc0
          generalize (encA_I dk[i]!)[1]! = old1 at cc1
          go_wp2
          go_roundg (d.size - (j + 1))
          case measure => omega
          case rel =>
            refine ⟨i + 1, j + 1, dk.setIfInBounds i u, by go_num, by go_num, by omega, Nat.le_refl _, HS.out.put encA_len_I (by omega) u, (show Aside _ from ?_)⟩
            have := I2.out.keep hlt2 (by rw [HK.out]; show (!p d[j]!) = true; rw [C.out, hq]; rfl)
            rwa [C.out] at this
        | true =>
          rw [hq] at HC
          go_wp2_with fail
          refine (HC.out _ (grown_trans_K S2.out.grown (grown_of_below (bel1 wr _) _))).mono ?_
          rintro e w2 ⟨rfl, hb2⟩
          have HS := Lib.hid (HW2.out w2 hb2).1
          clear hb2 HC HW2
          go_wp2
          go_roundg (d.size - (j + 1))
          case measure => omega
          case rel => exact ⟨i, j + 1, dk, rfl, by go_num, by omega, Nat.le_refl _, HS.out, I2.out.skip (by rw [HK.out]; show (!p d[j]!) = false; rw [C.out, hq]; rfl)⟩
      · obtain rfl : j = d.size := by omega
        have hltz : ¬ (d.size : Int) < (d.size : Int) := by omega
        have ilz : (i : Int) < (d.size : Int) := by omega
        have icz : (i : Int) ≤ (cap : Int) := by omega
        have hnc : (cap = i) = False := by simp; omega
        obtain ⟨zs, hzs, hcl⟩ : ∃ zs, zs = zs ∧ ∀ ty, (Builtin.clear_ #[23] ty #[.slice (some ⟨blk, off + i * 2, none⟩) (d.size - i) (cap - i)]).run Tryz.prog wr = .ok (.tuple #[]) (wr.setCells blk (off + i * 2) zs) := by
          refine ⟨_, rfl, fun ty => run_clear_sliceK wr _ _ ty _ Tryz.underlying23 Tryz.zeroValue50 (zeroCells_one _ _ (by simp [Value.cells, Value.oneCell'])) blk (off + i * 2) _ (by omega) (fun t ht => ?_) (fun t ht => ?_)⟩
          all_goals
            rw [zeroCells_len] at ht
            have ht' : t < (d.size - i) * 2 := ht
            have hb := S2.out.holds (i * 2 + t) (by rw [size_flatK]; have := Nat.mul_le_mul_right 2 (show i ≤ d.size by omega); rw [Nat.sub_mul] at ht'; omega)
            rw [← Nat.add_assoc] at hb
          · rw [hb.1]; rfl
          · exact hb.2
        have HS := Lib.hid S2.out
        have HI := Lib.hid I2.out
        clear hzs S2 I2
        go_wp2
        go_ret
        have hlen := HI.out.len
        refine ⟨?_, ?_, ?_⟩
        · simp only [hlen]; rfl
        · exact grown_trans_K HS.out.grown (grown_setCells _ _ _ _)
        · have := kept_rd HS.out HI.out zs
          simpa using this
end Go.Proofs.YtgpejfkmdenonaaGreat
namespace Go.Proofs.YtgpejfkmdenonaaGreat
open Go.RowKit Go.Sort Go.Lib
set_option maxRecDepth 100000
theorem hasB_iff (k : KN) (t : Int) : hasK k t = (chkB k && ((decide (1 ≤ t) && decide (t ≤ k.base)) || hasB_R k.rs t)) := by unfold hasK; rw [Bool.decide_and]
theorem chkE_eq (k : KN) : (chkE k == 0) = chkB k := by unfold chkE; cases chkB k <;> rfl
theorem chkE_ne (k : KN) : (chkE k != 0) = !chkB k := by unfold chkE; cases chkB k <;> rfl
set_option maxHeartbeats 4000000 in
theorem kHas_any (v : Value) (k : KN) (t : Int) (w : World) (h : KnV w v k) :
    Calls Tryz.prog 14 #[v, .int .i64 t] w fun e w' => e = .returned (.bool (hasK k t)) ∧ Below w.heap.size w w' := by
  obtain ⟨base, rs, ats⟩ := k
  obtain ⟨A1, c1, A2, c2, rfl, h1, h2, n1, n2⟩ := h
  have HC : Hid (∀ W, Below w.heap.size w W → Calls Tryz.prog 12 #[.agg #[.int .i64 base, .slice A1 rs.size c1, .slice A2 ats.size c2]] W fun e w' => e = .returned (.int .i64 (chkE ⟨base, rs, ats⟩)) ∧ Below W.heap.size W w') := fun W hb => kCheck_let base rs ats A1 c1 A2 c2 W ((h1.below hb).mono hb.size) ((h2.below hb).mono hb.size)
  have HG : Hid (∀ W, Below w.heap.size w W → Calls Tryz.prog 26 #[.slice A1 rs.size c1, .int .i64 t] W fun e w' => e = .returned (.bool (hasB_R rs t)) ∧ Below W.heap.size W w') := fun W hb => gHas_any A1 c1 rs t W ((h1.below hb).mono hb.size)
  have HK := Lib.hid (hasB_iff ⟨base, rs, ats⟩ t)
  have q0 := chkE_eq ⟨base, rs, ats⟩
  clear h1 h2 n1 n2
  generalize chkE ⟨base, rs, ats⟩ = ce at q0 HC
  generalize hasB_R rs t = hr at HK HG
  cases hc : chkB ⟨base, rs, ats⟩
  · rw [hc] at q0 HK
    have HF : Hid (hasK ⟨base, rs, ats⟩ t = false) := HK.out
    clear hc HK
    go_enter Tryz.func14, Tryz.ntmps14
    go_wp2_with fail
    refine (HC.out _ (bel1 w _)).mono ?_
    rintro e w1 ⟨rfl, hb1⟩
    go_wp2
    go_ret
    exact ⟨ret_bool HF.out.symm, belStep (bel1 w _) hb1⟩
  · rw [hc, Bool.true_and] at HK
    rw [hc] at q0
    clear hc
    by_cases g1 : 1 ≤ t ∧ t ≤ base
    · obtain ⟨a1, a2⟩ := g1
      have d1 : decide (1 ≤ t) = true := by simpa using a1
      have d2 : decide (t ≤ base) = true := by simpa using a2
      have HF : Hid (hasK ⟨base, rs, ats⟩ t = true) := by show _ = _; rw [HK.out, d1]; simp [a2]
      clear HK a1 a2
      go_enter Tryz.func14, Tryz.ntmps14
      go_wp2_with fail
      refine (HC.out _ (bel1 w _)).mono ?_
      rintro e w1 ⟨rfl, hb1⟩
      obtain ⟨u0, u1, u2⟩ := box3 hb1
      go_wp2
      go_ret
      exact ⟨ret_bool HF.out.symm, belStep (bel1 w _) hb1⟩
    · have HF : Hid (hasK ⟨base, rs, ats⟩ t = hr) := by
        show _ = _
        rw [HK.out, ← Bool.decide_and, decide_eq_false g1]
        rfl
      clear HK
      by_cases g2 : 1 ≤ t
      · have d1 : decide (1 ≤ t) = true := by simpa using g2
        have d2 : decide (t ≤ base) = false := decide_eq_false (fun h => g1 ⟨g2, h⟩)
        clear g1 g2
        go_enter Tryz.func14, Tryz.ntmps14
        go_wp2_with fail
        refine (HC.out _ (bel1 w _)).mono ?_
        rintro e w1 ⟨rfl, hb1⟩
        obtain ⟨u0, u1, u2⟩ := box3 hb1
        have HB1 := Lib.hid (belStep (bel1 w _) hb1)
        have HGG := Lib.hid (HG.out w1 HB1.out)
        clear hb1
        go_wp2_with fail
        refine HGG.out.mono ?_
        rintro e w2 ⟨rfl, hb2⟩
        go_wp2
        go_ret
        exact ⟨ret_bool HF.out.symm, belStep HB1.out hb2⟩
      · have d1 : decide (1 ≤ t) = false := decide_eq_false g2
        clear g1 g2
        go_enter Tryz.func14, Tryz.ntmps14
        go_wp2_with fail
        refine (HC.out _ (bel1 w _)).mono ?_
        rintro e w1 ⟨rfl, hb1⟩
        obtain ⟨u0, u1, u2⟩ := box3 hb1
        have HB1 := Lib.hid (belStep (bel1 w _) hb1)
        have HGG := Lib.hid (HG.out w1 HB1.out)
        clear hb1
        go_wp2_with fail
        refine HGG.out.mono ?_
        rintro e w2 ⟨rfl, hb2⟩
        go_wp2
        go_ret
        exact ⟨ret_bool HF.out.symm, belStep HB1.out hb2⟩
theorem cells3 {w w1 : World} {a b c : Value} {g : Nat} (hg : g < w.heap.size) (hb : Below w.heap.size w w1) (h : w.cell? ⟨g, 0, none⟩ = some a ∧ w.cell? ⟨g, 1, none⟩ = some b ∧ w.cell? ⟨g, 2, none⟩ = some c) : w1.cell? ⟨g, 0, none⟩ = some a ∧ w1.cell? ⟨g, 1, none⟩ = some b ∧ w1.cell? ⟨g, 2, none⟩ = some c :=
  ⟨(hb.cell (p := ⟨g, 0, none⟩) hg).trans h.1, (hb.cell (p := ⟨g, 1, none⟩) hg).trans h.2.1, (hb.cell (p := ⟨g, 2, none⟩) hg).trans h.2.2⟩
/-- Add's predicate: is a time known? -/
def addP (base : Int) (rs : Array (Int × Int)) (x : Int × Int) : Bool := decide (x.1 ≤ base) || hasB_R rs x.1
set_option maxHeartbeats 2000000 in
theorem kAdd1_any (base : Int) (rs : Array (Int × Int)) (A1 : Option Addr) (c1 : Nat) (x : Int × Int) (g : Nat) (w : World) (hg : g < w.heap.size) (hc0 : w.cell? ⟨g, 0, none⟩ = some (.int .i64 base)) (hc : w.cell? ⟨g, 1, none⟩ = some (.slice A1 rs.size c1)) (h : RdK encR 2 w.heap.size w A1 rs) :
    Calls Tryz.prog 25 #[.agg #[.int .i64 x.1, .int .i64 x.2], .pointer (some ⟨g, 0, none⟩)] w fun e w' => e = .returned (.bool (addP base rs x)) ∧ Below w.heap.size w w' := by
  have HR := Lib.hid h
  clear h
  have k0 : (w.alloc (.cells #[.int .i64 x.1, .int .i64 x.2] 50)).cell? ⟨g, 0, none⟩ = some (.int .i64 base) := (World.cell?_alloc_lt w _ _ hg).trans hc0
  have hc1 : (w.alloc (.cells #[.int .i64 x.1, .int .i64 x.2] 50)).cell? ⟨g, 1, none⟩ = some (.slice A1 rs.size c1) := (World.cell?_alloc_lt w _ _ hg).trans hc
  have HH := Lib.hid (gHas_any A1 c1 rs x.1 (w.alloc (.cells #[.int .i64 x.1, .int .i64 x.2] 50)) ((HR.out.alloc (Nat.le_refl _) _).mono (bel1 w _).size))
  have HP : Hid (addP base rs x = (decide (x.1 ≤ base) || hasB_R rs x.1)) := Lib.hid rfl
  generalize hasB_R rs x.1 = hv at HH HP
  cases hd : decide (x.1 ≤ base)
  · rw [hd, Bool.false_or] at HP
    go_enter Tryz.func25, Tryz.ntmps25
    go_wp2_with fail
    refine HH.out.mono ?_
    rintro e w1 ⟨rfl, hb1⟩
    go_wp2
    go_ret
    exact ⟨ret_bool HP.out.symm, belStep (bel1 w _) hb1⟩
  · rw [hd, Bool.true_or] at HP
    clear HH
    go_enter Tryz.func25, Tryz.ntmps25
    go_wp2
    go_ret
    exact ⟨ret_bool HP.out.symm, bel1 w _⟩
theorem cont_any (A : Option Addr) (c : Nat) (d : Array Int) (x : Int) (w : World) (h : RdI_R w.heap.size w A d) (hd : d.size ≤ 100000000) :
    Calls Tryz.prog 46 #[.slice A d.size c, .int .i64 x] w fun e w' => e = .returned (.bool (d.toList.contains x)) ∧ w = w' := by
  rcases Nat.eq_zero_or_pos d.size with h0 | h0
  · have e0 : d = #[] := Array.eq_empty_of_size_eq_zero h0
    subst e0
    exact (Tryz.slices_Contains_int_empty A c x w).mono fun e w' ⟨he, hw⟩ => ⟨by rw [he]; rfl, hw.symm⟩
  · obtain ⟨b, off, rfl, hb, hc⟩ := h h0
    have := Tryz.slices_Contains_int b off d.size c d.toList x w (by simp) (by omega) (fun j hj => by
      have hj' : j < d.size := by simpa using hj
      rw [hc j hj']
      simp [List.getD_eq_getElem?_getD, hj'])
    refine this.mono fun e w' ⟨he, hw⟩ => ⟨?_, hw.symm⟩
    rw [he, show d.toList.take d.size = d.toList from List.take_of_length_le (by simp)]
set_option maxHeartbeats 2000000 in
theorem kSet1_any (ids : Array Int) (A : Option Addr) (c : Nat) (x : Int × Int) (g : Nat) (w : World) (hg : g < w.heap.size) (hc : w.cell? ⟨g, 0, none⟩ = some (.slice A ids.size c)) (h : RdI_R w.heap.size w A ids) (hd : ids.size ≤ 100000000) :
    Calls Tryz.prog 45 #[.agg #[.int .i64 x.1, .int .i64 x.2], .pointer (some ⟨g, 0, none⟩)] w fun e w' => e = .returned (.bool (doneK ids x)) ∧ Below w.heap.size w w' := by
  have hc1 : (w.alloc (.cells #[.int .i64 x.1, .int .i64 x.2] 50)).cell? ⟨g, 0, none⟩ = some (.slice A ids.size c) := (World.cell?_alloc_lt w _ _ hg).trans hc
  have HH := Lib.hid (cont_any A c ids x.2 (w.alloc (.cells #[.int .i64 x.1, .int .i64 x.2] 50)) ((h.alloc (Nat.le_refl _) _).mono (bel1 w _).size) hd)
  have HP : Hid (doneK ids x = ids.toList.contains x.2) := Lib.hid rfl
  generalize ids.toList.contains x.2 = hv at HH HP
  clear h
  go_enter Tryz.func45, Tryz.ntmps45
  go_wp2_with fail
  refine HH.out.mono ?_
  rintro e w1 ⟨rfl, rfl⟩
  go_wp2
  go_ret
  exact ⟨ret_bool HP.out.symm, bel1 w _⟩
/-- Are two the same? -/
def sameK (k j : KN) : Bool := (k.base == j.base) && decide (k.rs = j.rs) && decide (k.ats = j.ats)
theorem sameK_iff {k j : KN} : sameK k j = true ↔ k = j := by
  obtain ⟨a, b, c⟩ := k
  obtain ⟨d, e, f⟩ := j
  unfold sameK
  simp [and_assoc]
end Go.Proofs.YtgpejfkmdenonaaGreat
