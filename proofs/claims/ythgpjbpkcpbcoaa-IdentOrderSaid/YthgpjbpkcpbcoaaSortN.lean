/- How often a command is in a list; an argument of three commands, opened. -/
import Derived.Test.YthgpjbpkcpbcoaaOpenA
namespace Go.Proofs.Ythgpjbpkcpbcoaa
open Go.ChangeShapes Go.WideShapes Go.ChangeAt Go.RowKit Go.Deep Go.Joins Go.Sort Go.Lib

/-- How often x is among the first k. -/
def cntA (d : Array (Int × Int)) (x : Int × Int) (k : Nat) : Nat := (d.toList.take k).countP (fun y => decide (y = x))
theorem cntA_succ {d : Array (Int × Int)} {x : Int × Int} {k : Nat} (hk : k < d.size) : cntA d x (k + 1) = cntA d x k + if d[k]! = x then 1 else 0 := by
  unfold cntA
  have : d.toList.take (k + 1) = d.toList.take k ++ [d[k]!] := by
    rw [List.take_add_one]
    simp [hk]
  rw [this, List.countP_append]
  by_cases h : d[k]! = x <;> simp [h]
theorem cntA_le (d : Array (Int × Int)) (x : Int × Int) (k : Nat) : cntA d x k ≤ k := by
  unfold cntA
  refine Nat.le_trans List.countP_le_length ?_
  simp
  omega
theorem cntA_srt (d : Array (Int × Int)) (x : Int × Int) : cntA (srtA d) x d.size = cntA d x d.size := by
  unfold cntA
  have hs := srtA_size d
  rw [List.take_of_length_le (l := (srtA d).toList) (by simp; omega), List.take_of_length_le (l := d.toList) (by simp)]
  exact List.Perm.countP_eq _ (List.mergeSort_perm _ _)
set_option maxRecDepth 100000 in
set_option maxHeartbeats 2000000 in
theorem times_any (A : Option Addr) (c n : Nat) (d : Array (Int × Int)) (x : Int × Int) (w : World) (h : RdK encA 2 w.heap.size w A d) (hn : d.size = n) (hd : n ≤ 1000000) :
    Calls Try.prog 25 #[.slice A n c, .agg #[.int .i64 x.1, .int .i64 x.2]] w fun e w' => e = .returned (.int .i64 (cntA d x n)) ∧ Below w.heap.size w w' := by
  subst hn
  have y0 : (w.alloc (.cells #[.int .i64 x.1, .int .i64 x.2] 34)).cell? ⟨w.heap.size, 0, none⟩ = some (.int .i64 x.1) := cell_new w #[.int .i64 x.1, .int .i64 x.2] _ 0
  have y1 : (w.alloc (.cells #[.int .i64 x.1, .int .i64 x.2] 34)).cell? ⟨w.heap.size, 1, none⟩ = some (.int .i64 x.2) := cell_new w #[.int .i64 x.1, .int .i64 x.2] _ 1
  have HB0 := Lib.hid (bel1 w (.cells #[.int .i64 x.1, .int .i64 x.2] 34))
  have p1 := Lib.hid ((h.below HB0.out).mono HB0.out.size)
  have hgd := attGuard
  clear h
  go_enter Try.func25, Try.ntmps25
  go_wp2
  generalize w.alloc (.cells #[.int .i64 x.1, .int .i64 x.2] 34) = W at y0 y1 p1 HB0 ⊢
  go_loopw [5, 6] (fun s i wr => ∃ k q : Nat, k ≤ d.size ∧ i = .int .i64 k ∧ s = .int .i64 (cntA d x k) ∧ wr = W.drewN q) (fun _ i _ => d.size - (intOf i).toNat)
  case atStart => exact ⟨0, 0, Nat.zero_le _, rfl, by simp [cntA], rfl⟩
  case round =>
    obtain ⟨k, q, hk, rfl, rfl, rfl⟩ := hrel
    have hcl := cntA_le d x k
    by_cases hlt : k < d.size
    · obtain ⟨b1, o1, rfl, _, f1⟩ := p1.out.at_ hlt
      have e10 := f1 0 (by omega)
      have e11 := f1 1 (by omega)
      have hnx := eqA_run d[k]! x
      have HS := Lib.hid (cntA_succ (x := x) hlt)
      generalize hx : d[k]! = y at e10 e11 hnx HS
      clear hx
      simp only [Nat.add_zero, encA, List.getElem!_cons_zero, List.getElem!_cons_succ] at e10 e11
      clear f1
      have kz : (k : Int) < (d.size : Int) := by omega
      generalize cntA d x k = n0 at hcl HS ⊢
      by_cases hxy : y = x
      · have hdd : decide (y = x) = true := by simp [hxy]
        have HE : Hid (cntA d x (k + 1) = n0 + 1) := by show _ = _; rw [HS.out, if_pos hxy]
        rw [hdd] at hnx
        clear hdd hxy
        go_wp2
        go_quiet (fail)
        go_wp2
        go_roundw
        case rel => exact ⟨k + 1, _, by omega, by go_num, by rw [HE.out]; go_num, rfl⟩
        case measure => simp [intOf]; omega
      · have hdd : decide (y = x) = false := by simp [hxy]
        have HE : Hid (cntA d x (k + 1) = n0) := by show _ = _; rw [HS.out, if_neg hxy]; rfl
        rw [hdd] at hnx
        clear hdd hxy
        go_wp2
        go_quiet (fail)
        go_wp2
        go_roundw
        case rel => exact ⟨k + 1, _, by omega, by go_num, by rw [HE.out], rfl⟩
        case measure => simp [intOf]; omega
    · obtain rfl : k = d.size := by omega
      have hlt' : ¬ (d.size : Int) < (d.size : Int) := by omega
      go_wp2
      go_ret
      exact ⟨rfl, belStep HB0.out (belDrewN (Below.refl _ _) q)⟩
section
variable {H : Type} {enc : TypeId × Value → H} {P : Program} {w : World}
theorem arr6 {α : Type} {cs : Array α} (h : cs.size = 6) : ∃ a b c d e f, cs = #[a, b, c, d, e, f] := by
  obtain ⟨l⟩ := cs
  match l, h with
  | [a, b, c, d, e, f], _ => exact ⟨a, b, c, d, e, f, rfl⟩
theorem open_arr3 {r : Reach} {b0 : Nat} {t e : TypeId} {f0 f1 : Field} {v : Value} {d : DataW H} {p : List MemPlace} (ht : P.underlying t = some (.array 3 e)) (hC : P.cellsOf t = 6) (he : P.underlying e = some (.struct #[f0, f1])) (hone : oneCellFields P #[f0, f1] = true) (hCe : P.cellsOf e = 2) (h0 : P.underlying f0.type = some (.int .i64)) (h1 : P.underlying f1.type = some (.int .i64))
    (hv : Value.okWide P w r b0 t v) (h : DataW.Trod enc P w 0 (fun _ => true) true t v d p) : ∃ x y z : Int × Int, v = .agg #[.int .i64 x.1, .int .i64 x.2, .int .i64 y.1, .int .i64 y.2, .int .i64 z.1, .int .i64 z.2] := by
  simp only [Value.okWide, ht] at hv
  obtain ⟨cs, rfl, hsz, _⟩ := hv
  obtain ⟨c0, c1, c2, c3, c4, c5, rfl⟩ := arr6 (hsz.trans hC)
  obtain ⟨fuel, hf⟩ := h
  obtain ⟨xs, m, _, _, _, hxl, hg⟩ := DataW.trod_array ht hf
  have g0 := hg 0 (by omega)
  have g1 := hg 1 (by omega)
  have g2 := hg 2 (by omega)
  rw [hCe] at g0 g1 g2
  obtain ⟨x0, x1, x2, rfl⟩ : ∃ x0 x1 x2, xs = [x0, x1, x2] := by
    match xs, hxl with
    | [a, b, c], _ => exact ⟨a, b, c, rfl⟩
  obtain ⟨x, e0⟩ := pair_cells he hone hCe h0 h1 (show _ = some x0 from g0)
  obtain ⟨y, e1⟩ := pair_cells he hone hCe h0 h1 (show _ = some x1 from g1)
  obtain ⟨z, e2⟩ := pair_cells he hone hCe h0 h1 (show _ = some x2 from g2)
  simp [Value.cells] at e0 e1 e2
  exact ⟨x, y, z, by rw [e0.1, e0.2, e1.1, e1.2, e2.1, e2.2]⟩
end
end Go.Proofs.Ythgpjbpkcpbcoaa
