/- Was a question answered: entry.of, question.is, slices.IndexFunc and ContainsFunc by that bound method; rubatoref20.had. -/
import Derived.Laws.StructEq
import Derived.Test.YtnmojicfmcbgmaaGreatQRead
namespace Go.Proofs.YtnmojicfmcbgmaaGreat
open Go.RowKit Go.Sort Go.Lib
set_option maxRecDepth 100000
def qB (b a : AK) : Bool := decide (b.kind = a.kind ∧ b.frm = a.frm ∧ b.bal = a.bal)
/-- Among the first n answers one of the same question. -/
def hadN (z : Array AK) (n : Nat) (a : AK) : Bool := (List.range n).any fun j => qB z[j]! a
theorem hadN_yes {z : Array AK} {n : Nat} {a : AK} (j : Nat) (hj : j < n) (h : qB z[j]! a = true) : hadN z n a = true := by
  unfold hadN; rw [List.any_eq_true]; exact ⟨j, List.mem_range.2 hj, h⟩
theorem hadN_no {z : Array AK} {n : Nat} {a : AK} (h : ∀ j, j < n → qB z[j]! a = false) : hadN z n a = false := by
  unfold hadN; rw [List.any_eq_false]; intro j hj; rw [h j (List.mem_range.1 hj)]; exact Bool.false_ne_true
theorem of_any (a : AK) (w : World) : Calls Tryz.prog 182 #[.agg (encK a).toArray] w fun e w' => e = .returned (.agg #[.int .i64 a.kind, .int .i64 a.frm, .int .i64 a.bal]) ∧ Below w.heap.size w w' := by
  have hb : ∀ o, Below w.heap.size w ((w.alloc (.cells (encK a).toArray 127)).alloc o) := fun o => belAlloc (bel1 w _) o
  obtain ⟨kind, frm, bal, t, abal, ph⟩ := a
  simp only [encK] at hb ⊢
  go_enter Tryz.func182, Tryz.ntmps182
  go_wp2
  have hS : Tryz.prog.underlying 189 = some (.struct (Tryz.prog.fieldsOf 189)) := by kernel_rfl
  refine bodyPost_ret (results_cell_row rfl _ _ (w.heap.size + 1) 189 _ (0, 0) _ rfl (heap_alloc2_new w _ _) hS rfl (by kernel_rfl)) rfl ?_
  exact ⟨rfl, hb _⟩
theorem eqQ_run (x y : AK) (w : World) : (binOp .eql 189 (.agg #[.int .i64 x.kind, .int .i64 x.frm, .int .i64 x.bal]) (.agg #[.int .i64 y.kind, .int .i64 y.frm, .int .i64 y.bal])).run Tryz.prog w = .ok (.bool (qB x y)) w := by
  have hS : Tryz.prog.underlying 189 = some (.struct (Tryz.prog.fieldsOf 189)) := by kernel_rfl
  have hp : Tryz.prog.stoodInHeld 189 = false := by kernel_rfl
  have u3 := Tryz.underlying3
  rw [run_eql_struct, show (10000 : Nat) = 9999 + 1 from rfl, run_equalIn_agg w 9999 189 _ _ hS hp]
  simp only [Program.fieldsOf, Tryz.underlying189]
  go_simp
  unfold qB
  by_cases h1 : x.kind = y.kind <;> by_cases h2 : x.frm = y.frm <;> by_cases h3 : x.bal = y.bal <;> simp [h1, h2, h3]
set_option maxHeartbeats 4000000 in
theorem is_any (q a : AK) (w : World) : Calls Tryz.prog 183 #[.agg #[.int .i64 q.kind, .int .i64 q.frm, .int .i64 q.bal], .agg (encK a).toArray] w fun e w' => e = .returned (.bool (qB a q)) ∧ Below w.heap.size w w' := by
  have HO := Lib.hid (fun W => of_any a W)
  have heq := eqQ_run a q
  generalize qB a q = r at heq
  obtain ⟨kind, frm, bal, t, abal, ph⟩ := a
  simp only [encK] at heq HO ⊢
  go_enter Tryz.func183, Tryz.ntmps183
  go_wp2_with fail
  have hc : ∀ j, ((w.alloc (.cells #[.int .i64 q.kind, .int .i64 q.frm, .int .i64 q.bal] 189)).alloc (.cells #[.int .i64 kind, .int .i64 frm, .int .i64 bal, .int .i64 t, .int .i64 abal, .int .i64 ph] 127)).cell? ⟨w.heap.size + 1, j, none⟩ = (#[.int .i64 kind, .int .i64 frm, .int .i64 bal, .int .i64 t, .int .i64 abal, .int .i64 ph] : Array Value)[j]? := fun j => by
    simp
  have hd : ∀ j, ((w.alloc (.cells #[.int .i64 q.kind, .int .i64 q.frm, .int .i64 q.bal] 189)).alloc (.cells #[.int .i64 kind, .int .i64 frm, .int .i64 bal, .int .i64 t, .int .i64 abal, .int .i64 ph] 127)).cell? ⟨w.heap.size, j, none⟩ = (#[.int .i64 q.kind, .int .i64 q.frm, .int .i64 q.bal] : Array Value)[j]? := fun j => by
    rw [World.cell?_alloc_lt _ _ _ (by simp), cell_new]
  have hl : ((w.alloc (.cells #[.int .i64 q.kind, .int .i64 q.frm, .int .i64 q.bal] 189)).alloc (.cells #[.int .i64 kind, .int .i64 frm, .int .i64 bal, .int .i64 t, .int .i64 abal, .int .i64 ph] 127)).heap.size = w.heap.size + 2 := by simp
  have HB := Lib.hid (belAlloc (bel1 w (.cells #[.int .i64 q.kind, .int .i64 q.frm, .int .i64 q.bal] 189)) (.cells #[.int .i64 kind, .int .i64 frm, .int .i64 bal, .int .i64 t, .int .i64 abal, .int .i64 ph] 127))
  generalize (w.alloc (.cells #[.int .i64 q.kind, .int .i64 q.frm, .int .i64 q.bal] 189)).alloc (.cells #[.int .i64 kind, .int .i64 frm, .int .i64 bal, .int .i64 t, .int .i64 abal, .int .i64 ph] 127) = w1 at hc hd hl HB ⊢
  have a0 := fun p : ExtW w1 => p.cell (a := ⟨w.heap.size + 1, 0, none⟩) (by simp; omega) (hc 0)
  have a1 := fun p : ExtW w1 => p.cell (a := ⟨w.heap.size + 1, 1, none⟩) (by simp; omega) (hc 1)
  have a2 := fun p : ExtW w1 => p.cell (a := ⟨w.heap.size + 1, 2, none⟩) (by simp; omega) (hc 2)
  have a3 := fun p : ExtW w1 => p.cell (a := ⟨w.heap.size + 1, 3, none⟩) (by simp; omega) (hc 3)
  have a4 := fun p : ExtW w1 => p.cell (a := ⟨w.heap.size + 1, 4, none⟩) (by simp; omega) (hc 4)
  have a5 := fun p : ExtW w1 => p.cell (a := ⟨w.heap.size + 1, 5, none⟩) (by simp; omega) (hc 5)
  have b0 := fun p : ExtW w1 => p.cell (a := ⟨w.heap.size, 0, none⟩) (by simp; omega) (hd 0)
  have b1 := fun p : ExtW w1 => p.cell (a := ⟨w.heap.size, 1, none⟩) (by simp; omega) (hd 1)
  have b2 := fun p : ExtW w1 => p.cell (a := ⟨w.heap.size, 2, none⟩) (by simp; omega) (hd 2)
  clear hc hd hl
  refine wp_region_ext (by kernel_rfl) (by kernel_rfl) ?_
  repeat (first | go_big_quiet_step ((go_at_call 182; exact Calls.ext_of (HO.out _))) | quiet_step ((go_at_call 182; exact Calls.ext_of (HO.out _))))
  refine wpQuiet_nil ?_
  intro wq hw'
  obtain ⟨⟨W, hbW⟩, hw''⟩ := hw'
  have hw3 : wq = W := hw''
  subst hw3
  have HBW := Lib.hid (belStep HB.out hbW)
  clear hbW hw'' a0 a1 a2 a3 a4 a5 b0 b1 b2
  go_wp2
  go_ret
  exact ⟨rfl, HBW.out⟩
def IdxK (z : Array AK) (n : Nat) (a : AK) (e : Ending) : Prop := ∃ r : Int, e = .returned (.int .i64 r) ∧ ((0 ≤ r ∧ hadN z n a = true) ∨ (r = -1 ∧ hadN z n a = false))
set_option maxHeartbeats 2000000 in
theorem IdxAck_any (A : Option Addr) (c n : Nat) (z : Array AK) (q : AK) (w : World) (h : RdK encK 6 w.heap.size w A z) (hn : n ≤ z.size) (hs : z.size ≤ 1000000) :
    Calls Tryz.prog 205 #[.slice A n c, .func (.func 183) #[.agg #[.int .i64 q.kind, .int .i64 q.frm, .int .i64 q.bal]] #[]] w fun e w' => IdxK z n q e ∧ Below w.heap.size w w' := by
  have HR := Lib.hid h
  clear h
  go_enter Tryz.func205, Tryz.ntmps205
  go_wp2
  go_loopw [8] (fun i wr => ∃ k : Nat, i = .int .i64 k ∧ k ≤ n ∧ Hid (∀ j, j < k → qB z[j]! q = false) ∧ Hid (Below w.heap.size w wr)) (fun i _ => n - (intOf i).toNat)
  case atStart => exact ⟨0, rfl, Nat.zero_le _, Lib.hid (fun j hj => absurd hj (by omega)), Lib.hid (Below.refl _ _)⟩
  case round =>
    obtain ⟨k, rfl, hk, hall, HB⟩ := hrel
    by_cases hlt : k < n
    · have kz : (k : Int) < (n : Int) := by omega
      obtain ⟨b, off, rfl, hbl, f⟩ := (HR.out.below HB.out).at_ (i := k) (by omega)
      have e0 := f 0 (by omega)
      have e1 := f 1 (by omega)
      have e2 := f 2 (by omega)
      have e3 := f 3 (by omega)
      have e4 := f 4 (by omega)
      have e5 := f 5 (by omega)
      have HIs := Lib.hid (fun W => is_any q z[k]! W)
      have HX : Hid (qB z[k]! q = qB z[k]! q) := rfl
      generalize hx : z[k]! = x at e0 e1 e2 e3 e4 e5 HIs
      have HXX := Lib.hid hx
      clear hx HX f
      obtain ⟨kind, frm, bal, t, abal, ph⟩ := x
      simp only [encK, Nat.add_zero, List.getElem!_cons_zero, List.getElem!_cons_succ] at e0 e1 e2 e3 e4 e5 HIs
      cases hq : qB ⟨kind, frm, bal, t, abal, ph⟩ q
      · rw [hq] at HIs
        have HQ := Lib.hid hq
        clear hq
        go_wp2_with (go_at_call 183; refine (HIs.out _).mono ?_; rintro e w' ⟨rfl, hb'⟩)
        go_roundw
        case rel =>
          refine ⟨k + 1, by go_num, by omega, Lib.hid (fun j hj => ?_), Lib.hid (belStep HB.out hb')⟩
          rcases Nat.lt_or_ge j k with h | h
          · exact hall.out j h
          · obtain rfl : j = k := by omega
            rw [HXX.out]; exact HQ.out
        case measure => simp [intOf]; omega
      · rw [hq] at HIs
        have HQ := Lib.hid hq
        clear hq
        go_wp2_with (go_at_call 183; refine (HIs.out _).mono ?_; rintro e w' ⟨rfl, hb'⟩)
        go_ret
        exact ⟨⟨k, rfl, Or.inl ⟨by omega, hadN_yes k (by omega) (by rw [HXX.out]; exact HQ.out)⟩⟩, belStep HB.out hb'⟩
    · have hlt' : decide ((k : Int) < (n : Int)) = false := by simp; omega
      go_wp2
      go_ret
      exact ⟨⟨-1, rfl, Or.inr ⟨rfl, hadN_no fun j hj => hall.out j (by omega)⟩⟩, HB.out⟩
theorem ConAck_any (A : Option Addr) (c n : Nat) (z : Array AK) (q : AK) (w : World) (h : RdK encK 6 w.heap.size w A z) (hn : n ≤ z.size) (hs : z.size ≤ 1000000) :
    Calls Tryz.prog 185 #[.slice A n c, .func (.func 183) #[.agg #[.int .i64 q.kind, .int .i64 q.frm, .int .i64 q.bal]] #[]] w fun e w' => e = .returned (.bool (hadN z n q)) ∧ Below w.heap.size w w' := by
  have HI := Lib.hid (IdxAck_any A c n z q w h hn hs)
  clear h
  go_enter Tryz.func185, Tryz.ntmps185
  go_wp2_with fail
  refine HI.out.mono ?_
  rintro e w' ⟨⟨r, rfl, hr⟩, hb⟩
  have HRR := Lib.hid hr
  have HB := Lib.hid hb
  clear hr hb
  go_wp2
  go_ret
  refine ⟨ret_bool ?_, HB.out⟩
  rcases HRR.out with ⟨h1, h2⟩ | ⟨h1, h2⟩
  · rw [h2]; simp; omega
  · rw [h2]; simp; omega
end Go.Proofs.YtnmojicfmcbgmaaGreat
