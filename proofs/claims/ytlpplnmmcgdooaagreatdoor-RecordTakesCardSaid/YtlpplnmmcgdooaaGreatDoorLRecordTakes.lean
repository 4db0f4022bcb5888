/- The law RecordTakes returns true for every input, and changes nothing that lay there; the variable errors.errorType holds what the program's text lays into it. No other condition. -/
import Derived.Test.YtlpplnmmcgdooaaGreatDoorAwkR
import Derived.Test.YtlpplnmmcgdooaaGreatDoorOpenM
import Derived.Test.YtlpplnmmcgdooaaGreatDoorLaw
import Derived.Test.YtlpplnmmcgdooaaGreatDoorDocJ
namespace Go.Proofs.YtlpplnmmcgdooaaGreatDoor.recordTakes
open Go.ChangeShapes Go.WideShapes Go.ChangeAt Go.RowKit Go.Sort Nb

attribute [local go_sem ↓] Go.wp_at_zero Go.wp_at_succ
theorem recGuard2 : Tryz.prog.eqGuardType Tryz.prog.depth 53 = false := by kernel_rfl
set_option maxRecDepth 100000 in
theorem eqRec2_run (a b : PR) (w : World) : (binOp .eql 53 (recV a) (recV b)).run Tryz.prog w = .ok (.bool (eqR a b)) w := by
  have hS : Tryz.prog.underlying 53 = some (.struct (Tryz.prog.fieldsOf 53)) := by kernel_rfl
  have hp : Tryz.prog.stoodInHeld 53 = false := by kernel_rfl
  have hp2 : Tryz.prog.stoodInHeld 47 = false := by kernel_rfl
  have u3 := Tryz.underlying3
  have u9 := Tryz.underlying9
  have u4 := Tryz.underlying4
  unfold recV eqR
  obtain ⟨a1, a2, a3, a4, a5, a6⟩ := a
  obtain ⟨b1, b2, b3, b4, b5, b6⟩ := b
  dsimp only
  rw [run_eql_struct, show (10000 : Nat) = 9999 + 1 from rfl, run_equalIn_agg w 9999 53 _ _ hS hp]
  simp only [Program.fieldsOf, Tryz.underlying53]
  go_simp
  simp only [toL_eq]
  by_cases h1 : a1 = b1 <;> by_cases h2 : a2 = b2 <;> by_cases h3 : a3 = b3 <;> by_cases h4 : a4 = b4 <;> by_cases h5 : a5 = b5 <;> by_cases h6 : a6 = b6 <;> simp [h1, h2, h3, h4, h5, h6]
/-- As wpAnyE_take, the slot written out. -/
theorem takeD {P : Program} {ops : Array Oper} {Q : Exit → Act → World → Prop} {md : Region.Mode} {S : World → Prop} {i : Nat} {oi : Oper} {v : Value} {fuel : Nat} {listed : Array Bool} {a : Act} {w : World} (d : Option Tmp) (hi : ops[i]? = some oi) (hd : oi.dst = d)
    (hs : Region.noSelect ops = true) (hf : Region.free md ops listed i = true) (hr : (Region.ready md ops listed).contains i = true)
    (hQ : ∀ c a w, Q (.panic c) (a.put d v) w → Q (.panic c) a w) (hy : YieldsIf P ops S oi v a) (hS : S w)
    (h : wpAnyE P md ops Q S fuel (listed.setIfInBounds i true) (a.put d v) w) : wpAnyE P md ops Q S (fuel + 1) listed a w := by
  subst hd
  exact wpAnyE_take hi hs hf hr hQ hy hS h
set_option maxRecDepth 100000 in
set_option maxHeartbeats 8000000 in
theorem walk (s : ByteArray) (w : World) (hg : Glob w) :
    Calls Tryz.prog 7 #[.string s] w fun e w' => e = .returned (.bool true) ∧ Below w.heap.size w w' := by
  have HAW := Lib.hid (fun (W : World) (h : Below w.heap.size w W) => awake11_any W (hg.below h))
  by_cases h1 : 20000 < s.size
  · have d1 : decide ((20000 : Int) < (s.size : Int)) = true := by simp; omega
    clear h1 hg
    go_enter Tryz.func7, Tryz.ntmps7
    go_wp2_with (go_at_call 23; refine (HAW.out _ (Below.refl _ _)).mono ?_; rintro e w9 ⟨rfl, hb9⟩; have HB9 := Lib.hid hb9; clear hb9)
    go_ret
    exact ⟨rfl, HB9.out⟩
  have d1 : decide ((20000 : Int) < (s.size : Int)) = false := by simp; omega
  have hs1 : s.size ≤ 1000000 := by omega
  have HCD := Lib.hid (fun (ops : List ByteArray) (c : Int) (v : Value) (W : World) (h : Below w.heap.size w W) (hv : ErrV W ops c v) => Code_any ops c v W (hg.below h) hv)
  have HAT := Lib.hid (fun (ops : List ByteArray) (c : Int) (v : Value) (W : World) (h : Below w.heap.size w W) (hv : Chain W ops c v) (hn : ops.length ≤ 1000) => At_any ops c v takeW W (hg.below h) hv hn)
  have HTK := Lib.hid (rcTake_any s w hg hs1)
  have HDK := Lib.hid (fun (W : World) => rRecTake_any s W hs1)
  clear h1 hg hs1
  go_enter Tryz.func7, Tryz.ntmps7
  go_wp2_with fail
  refine HTK.out.mono ?_
  rintro e w1 ⟨⟨r, v1, ops, rfl, hev, hol, hz, hy⟩, hb1⟩
  have B1 := Lib.hid hb1
  have V1 := Lib.hid hev
  have HOL := Lib.hid hol
  have HZ := Lib.hid hz
  have HY := Lib.hid hy
  clear hb1 hev hol hz hy
  unfold recV
  go_wp2_with fail
  refine (HDK.out _).mono ?_
  rintro e w2 ⟨⟨r', rfl, hz', hy'⟩, hb2⟩
  have hrr : r = r' := by
    by_cases h0 : rtC s.data.toList = 0
    · rw [hy' h0, HY.out h0]
    · rw [hz' h0, (HZ.out h0).2]
  subst hrr
  have hb12 := belStep (bel1 w1 _) hb2
  have V2 := Lib.hid (V1.out.below hb12)
  have B2 := Lib.hid (belStep B1.out hb12)
  have K2 := Lib.hid (heap_box hb2)
  have HOF := Lib.hid (fun (W : World) => of_any r W)
  have hrg := recGuard2
  have heq : ∀ W, (binOp .eql 53 (recV r) (recV r)).run Tryz.prog W = .ok (.bool true) W := fun W => by
    have := eqRec2_run r r W
    rw [eqR_self] at this
    exact this
  clear hb2 hb12 hz' hy' HY
  obtain ⟨c, hc⟩ : ∃ c, c = rtC s.data.toList := ⟨_, rfl⟩
  rw [← hc] at V2 HZ ⊢
  clear hc V1 HTK HDK
  unfold recV at HOF heq ⊢
  go_upto_region 5 with (fail)
  have V0 := Lib.hid (V2.out.below (bel1 w2 (.cells #[.int .i64 r.ep, .int .i64 r.sq, .bool r.sn, .int .i64 r.k, .string r.dt, .string r.st] 53)))
  have B0 := Lib.hid (belAlloc B2.out (.cells #[.int .i64 r.ep, .int .i64 r.sq, .bool r.sn, .int .i64 r.k, .string r.dt, .string r.st] 53))
  have K0 := Lib.hid ((Below.heap_alloc w2 (.cells #[.int .i64 r.ep, .int .i64 r.sq, .bool r.sn, .int .i64 r.k, .string r.dt, .string r.st] 53) _ (lt_of_heap K2.out)).trans K2.out)
  have L0 := Lib.hid (heap_new w2 (.cells #[.int .i64 r.ep, .int .i64 r.sq, .bool r.sn, .int .i64 r.k, .string r.dt, .string r.st] 53))
  generalize w2.alloc (.cells #[.int .i64 r.ep, .int .i64 r.sq, .bool r.sn, .int .i64 r.k, .string r.dt, .string r.st] 53) = w0 at V0 B0 K0 L0 ⊢
  have KS : Hid (∀ W, Below w0.heap.size w0 W → Below w0.heap.size w0 W ∧ W.cell? ⟨w1.heap.size, 0, none⟩ = some (.int .i64 r.ep) ∧ W.cell? ⟨w1.heap.size, 1, none⟩ = some (.int .i64 r.sq) ∧ W.cell? ⟨w1.heap.size, 2, none⟩ = some (.bool r.sn) ∧ W.cell? ⟨w1.heap.size, 3, none⟩ = some (.int .i64 r.k) ∧ W.cell? ⟨w1.heap.size, 4, none⟩ = some (.string r.dt) ∧ W.cell? ⟨w1.heap.size, 5, none⟩ = some (.string r.st) ∧ W.cell? ⟨w2.heap.size, 0, none⟩ = some (.int .i64 r.ep) ∧ W.cell? ⟨w2.heap.size, 1, none⟩ = some (.int .i64 r.sq) ∧ W.cell? ⟨w2.heap.size, 2, none⟩ = some (.bool r.sn) ∧ W.cell? ⟨w2.heap.size, 3, none⟩ = some (.int .i64 r.k) ∧ W.cell? ⟨w2.heap.size, 4, none⟩ = some (.string r.dt) ∧ W.cell? ⟨w2.heap.size, 5, none⟩ = some (.string r.st)) := fun W hb => by
    obtain ⟨⟨p0, p1, p2, p3, p4, p5⟩, -⟩ := cells6 ((hb.block _ (lt_of_heap K0.out)).trans K0.out)
    obtain ⟨⟨q0, q1, q2, q3, q4, q5⟩, -⟩ := cells6 ((hb.block _ (lt_of_heap L0.out)).trans L0.out)
    exact ⟨hb, p0, p1, p2, p3, p4, p5, q0, q1, q2, q3, q4, q5⟩
  have BW := Lib.hid (fun (W : World) (hb : Below w0.heap.size w0 W) => belStep B0.out hb)
  have VW := Lib.hid (fun (W : World) (hb : Below w0.heap.size w0 W) => V0.out.below hb)
  have hb0 : Below w0.heap.size w0 w0 := Below.refl _ _
  by_cases h0 : c = 0
  · have hc0 : ((c : Int) == 0) = true := by simp [h0]
    clear h0
    go_wp2_with fail
    refine wp_region_E (S := fun W => Below w0.heap.size w0 W ∧ W.cell? ⟨w1.heap.size, 0, none⟩ = some (.int .i64 r.ep) ∧ W.cell? ⟨w1.heap.size, 1, none⟩ = some (.int .i64 r.sq) ∧ W.cell? ⟨w1.heap.size, 2, none⟩ = some (.bool r.sn) ∧ W.cell? ⟨w1.heap.size, 3, none⟩ = some (.int .i64 r.k) ∧ W.cell? ⟨w1.heap.size, 4, none⟩ = some (.string r.dt) ∧ W.cell? ⟨w1.heap.size, 5, none⟩ = some (.string r.st) ∧ W.cell? ⟨w2.heap.size, 0, none⟩ = some (.int .i64 r.ep) ∧ W.cell? ⟨w2.heap.size, 1, none⟩ = some (.int .i64 r.sq) ∧ W.cell? ⟨w2.heap.size, 2, none⟩ = some (.bool r.sn) ∧ W.cell? ⟨w2.heap.size, 3, none⟩ = some (.int .i64 r.k) ∧ W.cell? ⟨w2.heap.size, 4, none⟩ = some (.string r.dt) ∧ W.cell? ⟨w2.heap.size, 5, none⟩ = some (.string r.st)) (by kernel_rfl) ?_
    have hS := KS.out w0.drew hb0.drew
    refine takeD (some 21) (i := 0) (v := ?_) rfl rfl (by kernel_rfl) (by kernel_rfl) (by kernel_rfl) (fun _ _ _ h => h) (Or.inl ⟨by rfl, ?_⟩) hS ?_
    rotate_left
    · (intro W hW; (try dsimp only at hW); go_simp; with_reducible rfl)
    simp only [Act.put, List.setIfInBounds_toArray, List.set_cons_zero, List.set_cons_succ]
    refine takeD (some 23) (i := 2) (v := ?_) rfl rfl (by kernel_rfl) (by kernel_rfl) (by kernel_rfl) (fun _ _ _ h => h) (Or.inl ⟨by rfl, ?_⟩) hS ?_
    rotate_left
    · (intro W hW; (try dsimp only at hW); go_simp; with_reducible rfl)
    simp only [Act.put, List.setIfInBounds_toArray, List.set_cons_zero, List.set_cons_succ]
    refine wpAnyE_ready (rs := [1]) (by kernel_rfl) (by simp) (AllReadyE.cons rfl (fun K hK => ?_) AllReadyE.nil)
    go_simp
    refine (HOF.out _).mono ?_
    rintro e w6 ⟨rfl, hb⟩
    have bw6 : Below w0.heap.size w0 w6 := belStep hb0.drew hb
    have hS := KS.out w6 bw6
    clear hb
    refine hK.out _ _ hS (fun _ => ?_)
    clear hK K
    refine takeD (some 24) (i := 3) (v := ?_) rfl rfl (by kernel_rfl) (by kernel_rfl) (by kernel_rfl) (fun _ _ _ h => h) (Or.inl ⟨by rfl, ?_⟩) hS ?_
    rotate_left
    · (intro W hW; (try dsimp only at hW); go_simp; with_reducible rfl)
    simp only [Act.put, List.setIfInBounds_toArray, List.set_cons_zero, List.set_cons_succ]
    refine takeD (some 25) (i := 4) (v := ?_) rfl rfl (by kernel_rfl) (by kernel_rfl) (by kernel_rfl) (fun _ _ _ h => h) (Or.inl ⟨by rfl, ?_⟩) hS ?_
    rotate_left
    · (intro W hW; (try dsimp only at hW); go_simp; with_reducible rfl)
    simp only [Act.put, List.setIfInBounds_toArray, List.set_cons_zero, List.set_cons_succ]
    refine takeD (some 26) (i := 5) (v := ?_) rfl rfl (by kernel_rfl) (by kernel_rfl) (by kernel_rfl) (fun _ _ _ h => h) (Or.inl ⟨by rfl, ?_⟩) hS ?_
    rotate_left
    · (intro W hW; (try dsimp only at hW); go_simp; with_reducible rfl)
    simp only [Act.put, List.setIfInBounds_toArray, List.set_cons_zero, List.set_cons_succ]
    refine takeD (some 28) (i := 7) (v := ?_) rfl rfl (by kernel_rfl) (by kernel_rfl) (by kernel_rfl) (fun _ _ _ h => h) (Or.inl ⟨by rfl, ?_⟩) hS ?_
    rotate_left
    · (intro W hW; (try dsimp only at hW); go_simp; with_reducible rfl)
    simp only [Act.put, List.setIfInBounds_toArray, List.set_cons_zero, List.set_cons_succ]
    refine wpAnyE_ready (rs := [6]) (by kernel_rfl) (by simp) (AllReadyE.cons rfl (fun K hK => ?_) AllReadyE.nil)
    go_simp
    refine (HCD.out ops c v1 _ (BW.out _ bw6) (VW.out _ bw6)).mono ?_
    rintro e w7 ⟨rfl, hb⟩
    have bw7 : Below w0.heap.size w0 w7 := belStep bw6 hb
    have hS := KS.out w7 bw7
    clear hb
    refine hK.out _ _ hS (fun _ => ?_)
    clear hK K
    refine takeD (some 29) (i := 8) (v := ?_) rfl rfl (by kernel_rfl) (by kernel_rfl) (by kernel_rfl) (fun _ _ _ h => h) (Or.inl ⟨by rfl, ?_⟩) hS ?_
    rotate_left
    · (intro W hW; (try dsimp only at hW); go_simp; with_reducible rfl)
    simp only [Act.put, List.setIfInBounds_toArray, List.set_cons_zero, List.set_cons_succ]
    refine takeD (some 30) (i := 9) (v := ?_) rfl rfl (by kernel_rfl) (by kernel_rfl) (by kernel_rfl) (fun _ _ _ h => h) (Or.inl ⟨by rfl, ?_⟩) hS ?_
    rotate_left
    · (intro W hW; (try dsimp only at hW); go_simp; with_reducible rfl)
    simp only [Act.put, List.setIfInBounds_toArray, List.set_cons_zero, List.set_cons_succ]
    refine takeD (some 31) (i := 10) (v := ?_) rfl rfl (by kernel_rfl) (by kernel_rfl) (by kernel_rfl) (fun _ _ _ h => h) (Or.inl ⟨by rfl, ?_⟩) hS ?_
    rotate_left
    · (intro W hW; (try dsimp only at hW); go_simp; with_reducible rfl)
    simp only [Act.put, List.setIfInBounds_toArray, List.set_cons_zero, List.set_cons_succ]
    refine takeD (some 32) (i := 11) (v := ?_) rfl rfl (by kernel_rfl) (by kernel_rfl) (by kernel_rfl) (fun _ _ _ h => h) (Or.inl ⟨by rfl, ?_⟩) hS ?_
    rotate_left
    · (intro W hW; (try dsimp only at hW); go_simp; with_reducible rfl)
    simp only [Act.put, List.setIfInBounds_toArray, List.set_cons_zero, List.set_cons_succ]
    refine takeD (some 33) (i := 12) (v := ?_) rfl rfl (by kernel_rfl) (by kernel_rfl) (by kernel_rfl) (fun _ _ _ h => h) (Or.inl ⟨by rfl, ?_⟩) hS ?_
    rotate_left
    · (intro W hW; (try dsimp only at hW); go_simp; with_reducible rfl)
    simp only [Act.put, List.setIfInBounds_toArray, List.set_cons_zero, List.set_cons_succ]
    refine takeD (some 34) (i := 13) (v := ?_) rfl rfl (by kernel_rfl) (by kernel_rfl) (by kernel_rfl) (fun _ _ _ h => h) (Or.inl ⟨by rfl, ?_⟩) hS ?_
    rotate_left
    · (intro W hW; (try dsimp only at hW); go_simp; with_reducible rfl)
    simp only [Act.put, List.setIfInBounds_toArray, List.set_cons_zero, List.set_cons_succ]
    refine takeD (some 35) (i := 14) (v := undef) rfl rfl (by kernel_rfl) (by kernel_rfl) (by kernel_rfl) (fun _ _ _ h => h) (Or.inr ⟨by rfl, rfl⟩) hS ?_
    simp only [Act.put, List.setIfInBounds_toArray, List.set_cons_zero, List.set_cons_succ]
    refine takeD (some 36) (i := 15) (v := undef) rfl rfl (by kernel_rfl) (by kernel_rfl) (by kernel_rfl) (fun _ _ _ h => h) (Or.inr ⟨by rfl, rfl⟩) hS ?_
    simp only [Act.put, List.setIfInBounds_toArray, List.set_cons_zero, List.set_cons_succ]
    refine takeD (some 37) (i := 16) (v := ?_) rfl rfl (by kernel_rfl) (by kernel_rfl) (by kernel_rfl) (fun _ _ _ h => h) (Or.inl ⟨by rfl, ?_⟩) hS ?_
    rotate_left
    · (intro W hW; (try dsimp only at hW); go_simp; with_reducible rfl)
    simp only [Act.put, List.setIfInBounds_toArray, List.set_cons_zero, List.set_cons_succ]
    refine takeD (some 38) (i := 17) (v := ?_) rfl rfl (by kernel_rfl) (by kernel_rfl) (by kernel_rfl) (fun _ _ _ h => h) (Or.inl ⟨by rfl, ?_⟩) hS ?_
    rotate_left
    · (intro W hW; (try dsimp only at hW); go_simp; with_reducible rfl)
    simp only [Act.put, List.setIfInBounds_toArray, List.set_cons_zero, List.set_cons_succ]
    refine takeD (some 39) (i := 18) (v := ?_) rfl rfl (by kernel_rfl) (by kernel_rfl) (by kernel_rfl) (fun _ _ _ h => h) (Or.inl ⟨by rfl, ?_⟩) hS ?_
    rotate_left
    · (intro W hW; (try dsimp only at hW); go_simp; with_reducible rfl)
    simp only [Act.put, List.setIfInBounds_toArray, List.set_cons_zero, List.set_cons_succ]
    refine wpAnyE_ready (rs := [19]) (by kernel_rfl) (by simp) (AllReadyE.cons rfl (fun K hK => ?_) AllReadyE.nil)
    go_simp
    refine (HAW.out _ (BW.out _ bw7)).mono ?_
    rintro e w8 ⟨rfl, hb⟩
    have bw8 : Below w0.heap.size w0 w8 := belStep bw7 hb
    have hS := KS.out w8 bw8
    clear hb
    refine hK.out _ _ hS (fun _ => ?_)
    clear hK K
    refine takeD (some 41) (i := 20) (v := ?_) rfl rfl (by kernel_rfl) (by kernel_rfl) (by kernel_rfl) (fun _ _ _ h => h) (Or.inl ⟨by rfl, ?_⟩) hS ?_
    rotate_left
    · (intro W hW; (try dsimp only at hW); go_simp; with_reducible rfl)
    simp only [Act.put, List.setIfInBounds_toArray, List.set_cons_zero, List.set_cons_succ]
    refine takeD (some 2) (i := 21) (v := ?_) rfl rfl (by kernel_rfl) (by kernel_rfl) (by kernel_rfl) (fun _ _ _ h => h) (Or.inl ⟨by rfl, ?_⟩) hS ?_
    rotate_left
    · (intro W hW; (try dsimp only at hW); go_simp; with_reducible rfl)
    simp only [Act.put, List.setIfInBounds_toArray, List.set_cons_zero, List.set_cons_succ]
    refine wpAnyE_done (by kernel_rfl) ?_ _
    go_wp2
    go_ret
    exact ⟨rfl, BW.out _ bw8⟩
  · have hc0 : ((c : Int) == 0) = false := by simp [h0]
    have HTO := Lib.hid (HZ.out h0).1
    have HATX : Hid (∀ W, Below w0.heap.size w0 W → Calls Tryz.prog 21 #[v1, .string ⟨#[116, 97, 107, 101]⟩] W fun e w' => e = .returned (.bool true) ∧ Below W.heap.size W w') := fun W hb => by
      have := HAT.out ops c v1 W (BW.out W hb) (errChain (VW.out W hb) (by omega)) (by have := HOL.out; omega)
      rw [hasS_yes HTO.out] at this
      exact this
    clear h0
    go_wp2_with fail
    go_region_held3 (fun W => Below w0.heap.size w0 W ∧ W.cell? ⟨w1.heap.size, 0, none⟩ = some (.int .i64 r.ep) ∧ W.cell? ⟨w1.heap.size, 1, none⟩ = some (.int .i64 r.sq) ∧ W.cell? ⟨w1.heap.size, 2, none⟩ = some (.bool r.sn) ∧ W.cell? ⟨w1.heap.size, 3, none⟩ = some (.int .i64 r.k) ∧ W.cell? ⟨w1.heap.size, 4, none⟩ = some (.string r.dt) ∧ W.cell? ⟨w1.heap.size, 5, none⟩ = some (.string r.st) ∧ W.cell? ⟨w2.heap.size, 0, none⟩ = some (.int .i64 r.ep) ∧ W.cell? ⟨w2.heap.size, 1, none⟩ = some (.int .i64 r.sq) ∧ W.cell? ⟨w2.heap.size, 2, none⟩ = some (.bool r.sn) ∧ W.cell? ⟨w2.heap.size, 3, none⟩ = some (.int .i64 r.k) ∧ W.cell? ⟨w2.heap.size, 4, none⟩ = some (.string r.dt) ∧ W.cell? ⟨w2.heap.size, 5, none⟩ = some (.string r.st)) (first | exact KS.out _ (by assumption) | exact KS.out _ (Below.drew (by assumption)))
        (first
          | (go_at_call 26; ((with_reducible refine (HOF.out _).mono ?_); rintro e wa ⟨rfl, hba⟩; have hbA : Below w0.heap.size w0 wa := belStep (by first | assumption | exact Below.drew (by assumption)) hba; clear hba))
          | (go_at_call 12; ((with_reducible refine (HCD.out ops c v1 _ (BW.out _ (by first | assumption | exact Below.drew (by assumption))) (VW.out _ (by first | assumption | exact Below.drew (by assumption)))).mono ?_); rintro e wa ⟨rfl, hba⟩; have hbA : Below w0.heap.size w0 wa := belStep (by first | assumption | exact Below.drew (by assumption)) hba; clear hba))
          | (go_at_call 21; ((with_reducible refine (HATX.out _ (by first | assumption | exact Below.drew (by assumption))).mono ?_); rintro e wa ⟨rfl, hba⟩; have hbA : Below w0.heap.size w0 wa := belStep (by first | assumption | exact Below.drew (by assumption)) hba; clear hba))
          | (go_at_call 23; ((with_reducible refine (HAW.out _ (BW.out _ (by first | assumption | exact Below.drew (by assumption)))).mono ?_); rintro e wa ⟨rfl, hba⟩; have hbA : Below w0.heap.size w0 wa := belStep (by first | assumption | exact Below.drew (by assumption)) hba; clear hba)))
    go_wp2
    go_ret
    exact ⟨rfl, BW.out _ (by assumption)⟩

set_option maxRecDepth 100000 in
theorem lifted (os : Os) (started : os.Started) (H : Type) (enc : TypeId × Value → H) :
    ReturnsInHanded {} Tryz.checked os 7 .any (fun w args => (Rows.recordTakesSpec.pre enc Tryz.prog Tryz.f7 [] false w args ∧ laidMetH Tryz.prog laidL w) ∧ sizedMet enc Tryz.prog Tryz.f7 (OpenSpec.ofChange Rows.recordTakesSpec) false w args)
      (Rows.recordTakesSpec.post enc Tryz.prog Tryz.f7 false true false false) := by
  refine returnsInHanded_of_change_and (C := Tryz.checked) (X := fun w _ => laidMetH Tryz.prog laidL w) (fun _ _ _ hh h => h.of_heap hh) own started (by kernel_rfl) Tryz.func7
    (ChangeSpec.witness_at (enc := enc) (C := Tryz.checked) (os := os) (X := fun w _ => laidMetH Tryz.prog laidL w) false (laidWorld os) #[.string ⟨#[]⟩] 8 rfl (by kernel_rfl) (by kernel_rfl) (by kernel_rfl) (by kernel_rfl) (by kernel_rfl) (laidWorld_met os _)) ?_
  intro W base args ds gs before hval0 hW _ _ hL _
  have hval : ∀ (j : Nat) t v, Tryz.f7.params[j]? = some t → args[j]? = some v → Value.okWide Tryz.prog W .any base t v := hval0
  have hW' := hW
  obtain ⟨p, q, hA0, hV, rfl, _, _⟩ := hW
  have hA : DataW.TrodAll enc Tryz.prog W 0 (fun _ => true) true Tryz.f7.params.toList args.toList ds p := hA0
  rw [Tryz.params7] at hA hval
  have hg := glob_of_laid hL
  obtain ⟨v0, d0, rfl, rfl, h0⟩ := trodAll_one hA
  obtain ⟨rfl, rfl⟩ := trodVars_none hV
  obtain ⟨s0, rfl, rfl, rfl, -⟩ := ChangeMaps.open_string Tryz.underlying9 (hval 0 9 v0 rfl rfl) h0
  refine (walk s0 W hg ).mono fun e W' ⟨he, hb⟩ => ?_
  subst he
  exact ⟨_, rfl, law_post (tb := 4) laidOut (by decide +kernel) rfl hW' rfl rfl rfl rfl Tryz.underlying4 hb⟩

theorem over : Rows.recordTakesRow.holds Tryz.pinned (OpenSpec.ofChange Rows.recordTakesSpec) :=
  OpenClaim.holds_of_wide 7 Tryz.f7 rfl rfl rfl rfl rfl rfl rfl ⟨rfl, rfl, rfl, rfl, rfl⟩ rfl rfl rfl rfl rfl (by kernel_rfl) Tryz.func7 (by kernel_rfl)
    (of_decide_eq_true (by kernel_rfl)) (by unfold Func.isWrapper; first | (rw [if_pos (by decide +kernel)]; kernel_rfl) | (rw [if_neg (by decide +kernel)]; exact ⟨rfl, rfl⟩))
    (fun os started H enc _ => lifted os started H enc)
theorem noStand : ∀ (f : FuncId) (fn : Func), Tryz.prog.funcNamed "rubato/rubatolaw11.RecordTakes" = some f → Tryz.prog.funcs[f]? = some fn → true = Tryz.prog.looks [] ∧ ∀ (j : Nat) t, fn.params[j]? = some t → Tryz.prog.wantsStandIn t = false := fun f fn hf hfn => by
  obtain rfl : f = 7 := Option.some.inj ((show Tryz.prog.funcNamed "rubato/rubatolaw11.RecordTakes" = some 7 by kernel_rfl).symm.trans hf) |>.symm
  obtain rfl : fn = Tryz.f7 := (Option.some.inj (Tryz.func7.symm.trans hfn)).symm
  refine ⟨by kernel_rfl, fun j t ht => ?_⟩
  rw [Tryz.params7] at ht
  have hs : t = 9 := by
    rcases j with _ | j
    · simpa using ht.symm
    simp at ht
  rcases hs with rfl
  · exact (show Tryz.prog.wantsStandIn 9 = false by kernel_rfl)
theorem proved : Rows.RecordTakesCardSaid :=
  Claim7.holds_tied_plain_at .later [] [.handle] true Rows.recordTakesCard.stood.harness true over (fun _ h => by cases h) (by kernel_rfl) (fun _ h => by cases h) recordTakes_row_tie rfl ⟨rfl, rfl⟩ (by kernel_rfl) (by kernel_rfl) noStand (by kernel_rfl)
#print axioms proved
end Go.Proofs.YtlpplnmmcgdooaaGreatDoor.recordTakes
